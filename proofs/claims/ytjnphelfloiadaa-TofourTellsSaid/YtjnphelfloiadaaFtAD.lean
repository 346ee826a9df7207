/-
  Lemmas and walks for the row of TofourTells (part 4 of 37).
-/
import Derived.Test.YtjnphelfloiadaaFtAB
import Derived.Test.YtjnphelfloiadaaFtAC
import Derived.Deep.RegionHeld3
import Derived.Deep.MidRow
import Derived.BigFrame
import Derived.Laws.BitsAllLaws
import Derived.IntWalk
import Derived.StillTailTactics
import Derived.Deep.RegionLaw
set_option linter.unusedVariables false
set_option linter.unusedSimpArgs false
namespace Go.Proofs.Ytjnphelfloiadaa
open Go.RowKit

section
variable {P : Program} {md : Region.Mode} {ops : Array Oper} {Q : Exit → Act → World → Prop} {S : World → Prop}
/-- take number i: it yields v in every world that meets S -/
theorem tk {i : Nat} {o : Oper} (v : Value) {fuel : Nat} {listed : Array Bool} {a : Act} {w : World} (hS : S w) (hi : ops.toList[i]? = some o)
  (hs : Region.noSelect ops = true) (hf : Region.free md ops listed i = true) (hr : (Region.ready md ops listed).contains i = true)
  (hQ : ∀ c a w, Q (.panic c) (a.put o.dst v) w → Q (.panic c) a w) (hw : Region.wanted o (yielded ops a.tmps) = true) (hv : ∀ w, S w → (execOp a.eval o).run P w = .ok (.value v) w)
  (h : wpAnyH P md ops Q S fuel (listed.setIfInBounds i true) (a.put o.dst v) w) : wpAnyH P md ops Q S (fuel + 1) listed a w := wpAnyH_take (by simpa using hi) hs hf hr hQ (.inl ⟨hw, hv⟩) hS h
/-- take number i, whose guard does not hold -/
theorem tkn {i : Nat} {o : Oper} {fuel : Nat} {listed : Array Bool} {a : Act} {w : World} (hS : S w) (hi : ops.toList[i]? = some o)
  (hs : Region.noSelect ops = true) (hf : Region.free md ops listed i = true) (hr : (Region.ready md ops listed).contains i = true)
  (hQ : ∀ c a w, Q (.panic c) (a.put o.dst undef) w → Q (.panic c) a w) (hw : Region.wanted o (yielded ops a.tmps) = false)
  (h : wpAnyH P md ops Q S fuel (listed.setIfInBounds i true) (a.put o.dst undef) w) : wpAnyH P md ops Q S (fuel + 1) listed a w := wpAnyH_take (by simpa using hi) hs hf hr hQ (.inr ⟨hw, rfl⟩) hS h
theorem ex_call {a : Act} {o : Oper} {k : Nat} {xs : Array Operand} {ats : Array TypeId} {args : Array Value} {fn : Func} {w : World} (ho : o.op = .call { callee := .value (.func k), args := xs, argTypes := ats }) (hf : P.funcs[k]? = some fn) (hn : (fn.name == "runtime.NumGoroutine") = false) (hb : fn.body.isNone = false)
  (hx : (xs.map a.eval) = args) : (execOp a.eval o).run P w = .ok (.enter k args) w := by
 subst hx
 have h1 : fn.name ≠ "runtime.NumGoroutine" := by simpa using hn
 obtain ⟨c, hc1⟩ : ∃ c, fn.body = some c := Option.isSome_iff_exists.1 (by simpa [Option.isNone_iff_eq_none, Option.isSome_iff_ne_none] using hb)
 have hc : ∀ args, (callFunc k args).run P w = .ok (.enter k args) w := fun args => by simp [callFunc, hf, h1, hc1]
 unfold execOp
 simp only [ho]
 have := hc (#[] ++ xs.map a.eval ++ #[])
 rw [Array.empty_append, Array.append_empty] at this
 rw [← this]
 simp [resolve, Deferred.ofValue, invoke, Act.eval]
theorem ex_conv {ρ : Operand → Value} {o : Oper} {src dst : TypeId} {x : Operand} {u v : Value} {w : World} (ho : o.op = .convert src dst x) (hx : ρ x = u) (h : (convert src dst u).run P w = .ok v w) : (execOp ρ o).run P w = .ok (.value v) w := by
 unfold execOp
 simp only [ho, hx, Sem.run_bind, Sem.run_pure, h, Result.andThen_ok]
theorem ex_load {ρ : Operand → Value} {o : Oper} {ty : TypeId} {x : Operand} {b : Nat} {v : Value} {w : World} (ho : o.op = .load ty x) (hx : ρ x = .pointer (some ⟨b, 0, none⟩)) (h : (loadVar ty ⟨b, 0, none⟩).run P w = .ok v w) : (execOp ρ o).run P w = .ok (.value v) w := by
 unfold execOp
 simp only [ho, hx, Instr.loadAt, Instr.sureAddr, Sem.run_bind, Sem.run_pure, h, Result.andThen_ok]
theorem ex_eq_str {ρ : Operand → Value} {o : Oper} {t z : TypeId} {x y : Operand} {s s' : ByteArray} {w : World} (ho : o.op = .binOp .eql t x y z) (hx : ρ x = .string s) (hy : ρ y = .string s') : (execOp ρ o).run P w = .ok (.value (.bool (s.toList == s'.toList))) w := by
 unfold execOp
 simp [ho, hx, hy, eqGuard, binOp, Op.stringOp]
theorem ex_eq_int {ρ : Operand → Value} {o : Oper} {t z : TypeId} {k : IntKind} {x y : Operand} {m n : Int} {w : World} (ho : o.op = .binOp .eql t x y z) (hx : ρ x = .int k m) (hy : ρ y = .int k n) : (execOp ρ o).run P w = .ok (.value (.bool (m == n))) w := by
 unfold execOp
 simp [ho, hx, hy, eqGuard, binOp, Op.intCmp]
theorem eq_str_self {ρ : Operand → Value} {o : Oper} {t z : TypeId} {x y : Operand} {s : ByteArray} {w : World} (ho : o.op = .binOp .eql t x y z) (hx : ρ x = .string s) (hy : ρ y = .string s) : (execOp ρ o).run P w = .ok (.value (.bool true)) w := by
 rw [ex_eq_str ho hx hy]; simp
theorem ex_index {ρ : Operand → Value} {o : Oper} {t e : TypeId} {x ix : Operand} {b off n c k : Nat} {w : World} (ho : o.op = .indexAddr t x ix) (ht : P.underlying t = some (.slice e)) (hs : (P.info? e).map (·.size) = some 1) (hx : ρ x = .slice (some ⟨b, off, none⟩) n c) (hi : ρ ix = .int .i64 (k : Int)) (hk : k < n) :
  (execOp ρ o).run P w = .ok (.value (.pointer (some ⟨b, off + k, none⟩))) w := by
 have hsz : (sizeOf e).run P w = .ok 1 w := by
  cases hq : P.info? e with
  | none => simp [hq] at hs
  | some i => simp [hq] at hs; simp [sizeOf, typeInfo, hq, hs]
 unfold execOp
 simp [ho, hx, hi, Instr.indexAt, run_underlying ht, hsz, hk, Go.WideShapes.add_plain, asIntOf]
/-- number i alone is ready: a whole row stored into a block of the call's own -/
theorem tk_store {i : Nat} {o : Oper} {ty : TypeId} {x y : Operand} {g : Nat} {cells : Array Value} {t : TypeId} {old : Array Value} {fuel : Nat} {listed : Array Bool} {a : Act} {w : World} (hr : Region.ready md ops listed = [i]) (hi : ops.toList[i]? = some o) (hw : Region.wanted o (yielded ops a.tmps) = true)
  (ho : o.op = .store ty x y) (hx : a.eval x = .pointer (some ⟨g, 0, none⟩)) (hy : a.eval y = .agg cells) (hg : Has w g (.cells old t (0, 0))) (hti : (P.info? ty).map (·.size) = some cells.size) (hold : old.size = cells.size) (h1 : cells.all (·.oneCell') = true)
  (hS : S (w.setRow g cells)) (h : wpAnyH P md ops Q S fuel (listed.setIfInBounds i true) (a.put o.dst undef) (w.setRow g cells)) : wpAnyH P md ops Q S (fuel + 1) listed a w :=
 wpAnyH_all hr (by simp) fun j hj => by
  obtain rfl : j = i := by simpa using hj
  have hi : ops[j]? = some o := by simpa using hi
  unfold wpOp
  rw [hi]
  simp only [hw, if_true]
  left
  exact wp_store_row ty x y ho g cells hx hy t old hg hti hold h1 ⟨hS, h⟩
/-- a whole row loaded -/
theorem Has.load {w : World} {g : Nat} {cs : Array Value} {t : TypeId} {fz : Nat × Nat} (h : Has w g (.cells cs t fz)) (ty : TypeId) {d : TypeDesc} (hu : P.underlying ty = some d) (hd : d.isRow = true) (hi : (P.info? ty).map (·.size) = some cs.size) :
  (loadVar ty ⟨g, 0, none⟩).run P w = .ok (.agg cs) w := by
 have := run_loadVar_mid (P := P) w g 0 ty cs.toList d (fun j v hj => by rw [Nat.zero_add]; exact h.cell j (by simpa using hj)) hu hd (by simpa using hi)
 simpa using this
theorem ex_cell {ρ : Operand → Value} {o : Oper} {ty : TypeId} {x : Operand} {b k : Nat} {v : Value} {w : World} {d : TypeDesc} (ho : o.op = .load ty x) (hu : P.underlying ty = some d) (hd : d.isRow = false) (hx : ρ x = .pointer (some ⟨b, k, none⟩)) (h : w.cell? ⟨b, k, none⟩ = some v) : (execOp ρ o).run P w = .ok (.value v) w := by
 have hagg : (isAgg ty).run P w = .ok false w := by
  unfold isAgg
  rw [Sem.run_bind, run_underlying hu w]
  cases d <;> simp_all [TypeDesc.isRow]
 have hl : (loadVar ty ⟨b, k, none⟩).run P w = .ok v w := by
  simp [loadVar, Sem.run_bind, hagg, h]
 unfold execOp
 simp only [ho, hx, Instr.loadAt, Instr.sureAddr, Sem.run_bind, Sem.run_pure, hl, Result.andThen_ok]
theorem OwnB.setRow {w : World} {base g : Nat} {v : Value} {l : List Int} {cs : Array Value} (h : OwnB w base v l) (hg : g < base) : OwnB (w.setRow g cs) base v l := by
 refine ⟨⟨h.own.1, ?_⟩, h.rng⟩
 rcases h.own.2 with h0 | ⟨g', cap, cur, h0, hb, hh, rest⟩
 ·exact .inl h0
 ·exact .inr ⟨g', cap, cur, h0, hb, Has.setRow_other hh (by omega), rest⟩
theorem below_setRow' {w : World} {g : Nat} {cs : Array Value} : Below g w (w.setRow g cs) := below_setRow (Below.refl _ _) (Nat.le_refl _) _
/-- number i alone is ready, a call of a Go function whose result has a name only behind it -/
theorem tk_callx {i k : Nat} {o : Oper} {args : Array Value} (T : Value → World → Prop) {fuel : Nat} {listed : Array Bool} {a : Act} {w : World} (hr : Region.ready md ops listed = [i]) (hi : ops.toList[i]? = some o) (hw : Region.wanted o (yielded ops a.tmps) = true)
  (hrun : (execOp a.eval o).run P w = .ok (.enter k args) w) (hc : Calls P k args w fun e w' => ∃ v, e = .returned v ∧ T v w' ∧ S w')
  (h : ∀ v w', T v w' → S w' → wpAnyH P md ops Q S fuel (listed.setIfInBounds i true) (a.put o.dst v) w') : wpAnyH P md ops Q S (fuel + 1) listed a w :=
 wpAnyH_all hr (by simp) fun j hj => by
  obtain rfl : j = i := by simpa using hj
  have hi : ops[j]? = some o := by simpa using hi
  unfold wpOp
  rw [hi]
  simp only [hw, if_true]
  left
  unfold Oper.wp
  rw [hrun, Oper.upon_enter]
  refine hc.mono fun e w' ⟨v, he, hT, hS'⟩ => ?_
  subst he
  exact ⟨hS', h v w' hT hS'⟩
theorem ex_slice {ρ : Operand → Value} {o : Oper} {t : TypeId} {x : Operand} {lo hi mx : Option Operand} {u v : Value} {w : World} (ho : o.op = .slice t x lo hi mx) (hx : ρ x = u) (h : (Instr.sliceAt t u (lo.map ρ) (hi.map ρ) (mx.map ρ)).run P w = .ok v w) : (execOp ρ o).run P w = .ok (.value v) w := by
 subst hx
 unfold execOp
 simp only [ho, Sem.run_bind, Sem.run_pure, h, Result.andThen_ok]
theorem By.from_ {B : Nat} {w : World} {A : Option Addr} {n c : Nat} {l : List Int} (h : By B w A n c l) (t : TypeId) (ht : P.underlying t = some (.slice 5)) (hs : (P.info? 5).map (·.size) = some 1) {k : Nat} (hk : k ≤ n) :
  ∃ A' c', (∀ w', (Instr.sliceAt t (.slice A n c) (some (.int .i64 (k : Int))) none none).run P w' = .ok (.slice A' (n - k) c') w') ∧ By B w A' (n - k) c' (l.drop k) := by
 refine ⟨_, _, fun w' => ?_, h.cut hk⟩
 have he : P.elem t = 5 := by simp [Program.elem, ht]
 have hsz : (sizeOf 5).run P w' = .ok 1 w' := by
  cases hq : P.info? 5 with
  | none => simp [hq] at hs
  | some i => simp [hq] at hs; simp [sizeOf, typeInfo, hq, hs]
 rw [run_sliceAt_slice w' t _ _ _ _ (by rw [he]; exact ht), run_slice_l w' t _ _ _ (by rw [he]; exact ht) .i64 (k : Int) (by omega) (by omega), he, hsz]
 simp [sliced, Result.andThen]
theorem By.to_ {B : Nat} {w : World} {A : Option Addr} {n c : Nat} {l : List Int} (h : By B w A n c l) (t : TypeId) (ht : P.underlying t = some (.slice 5)) (hs : (P.info? 5).map (·.size) = some 1) {k : Nat} (hk : k ≤ n) :
  (∀ w', (Instr.sliceAt t (.slice A n c) none (some (.int .i64 (k : Int))) none).run P w' = .ok (.slice A k c) w') ∧ By B w A k c (l.take k) := by
 refine ⟨fun w' => ?_, h.take hk⟩
 have hcap := h.cap
 have he : P.elem t = 5 := by simp [Program.elem, ht]
 have hsz : (sizeOf 5).run P w' = .ok 1 w' := by
  cases hq : P.info? 5 with
  | none => simp [hq] at hs
  | some i => simp [hq] at hs; simp [sizeOf, typeInfo, hq, hs]
 rw [run_sliceAt_slice w' t _ _ _ _ (by rw [he]; exact ht), run_slice_h w' t _ _ _ (by rw [he]; exact ht) .i64 (k : Int) (by omega) (by omega), he, hsz]
 cases A with
 | none => simp [sliced, Result.andThen]
 | some ad => simp [sliced, Result.andThen, Addr.add]
theorem res_cell {fn : Func} {tmps : Array Value} {a : Nat} {t : TypeId} {g : Nat} {v : Value} {w : World} (hr : fn.results = #[.cell a t]) (hx : tmps.getD a undef = .pointer (some ⟨g, 0, none⟩)) (hl : (loadVar t ⟨g, 0, none⟩).run P w = .ok v w) :
  (results fn tmps).run P w = .ok v w := by
 rw [Array.getD_eq_getD_getElem?] at hx
 simp [results, hr, hx, asAddr, hl]
theorem res_cell2 {fn : Func} {tmps : Array Value} {a b : Nat} {t : TypeId} {g : Nat} {v u : Value} {w : World} (hr : fn.results = #[.cell a t, .tmp b]) (hx : tmps.getD a undef = .pointer (some ⟨g, 0, none⟩)) (hl : (loadVar t ⟨g, 0, none⟩).run P w = .ok v w) (hb : tmps.getD b undef = u) :
  (results fn tmps).run P w = .ok (.tuple #[v, u]) w := by
 rw [Array.getD_eq_getD_getElem?] at hx hb
 simp [results, hr, hx, asAddr, hl, hb]
theorem res_cell3 {fn : Func} {tmps : Array Value} {a b c : Nat} {t : TypeId} {g : Nat} {v u u' : Value} {w : World} (hr : fn.results = #[.cell a t, .tmp b, .tmp c]) (hx : tmps.getD a undef = .pointer (some ⟨g, 0, none⟩)) (hl : (loadVar t ⟨g, 0, none⟩).run P w = .ok v w) (hb : tmps.getD b undef = u) (hc : tmps.getD c undef = u') :
  (results fn tmps).run P w = .ok (.tuple #[v, u, u']) w := by
 rw [Array.getD_eq_getD_getElem?] at hx hb hc
 simp [results, hr, hx, asAddr, hl, hb, hc]
end
theorem te {P : Program} {md : Region.Mode} {ops : Array Oper} {Q : Exit → Act → World → Prop} {S : World → Prop} (i : Nat) {o : Oper} (v : Value) {fuel : Nat} {listed : Array Bool} {a : Act} {w : World} (hS : S w) (hi : ops.toList[i]? = some o) (hv : ∀ w, S w → (execOp a.eval o).run P w = .ok (.value v) w) (h : wpAnyH P md ops Q S fuel (listed.setIfInBounds i true) (a.put o.dst v) w)
  (hs : Region.noSelect ops = true := by kernel_rfl) (hf : Region.free md ops listed i = true := by kernel_rfl) (hr : (Region.ready md ops listed).contains i = true := by kernel_rfl) (hQ : ∀ c a w, Q (.panic c) (a.put o.dst v) w → Q (.panic c) a w := by exact fun _ _ _ h => h) (hw : Region.wanted o (yielded ops a.tmps) = true := by kernel_rfl) : wpAnyH P md ops Q S (fuel + 1) listed a w := tk v hS hi hs hf hr hQ hw hv h
theorem tn {P : Program} {md : Region.Mode} {ops : Array Oper} {Q : Exit → Act → World → Prop} {S : World → Prop} (i : Nat) {o : Oper} {fuel : Nat} {listed : Array Bool} {a : Act} {w : World} (hS : S w) (hi : ops.toList[i]? = some o) (h : wpAnyH P md ops Q S fuel (listed.setIfInBounds i true) (a.put o.dst undef) w)
  (hs : Region.noSelect ops = true := by kernel_rfl) (hf : Region.free md ops listed i = true := by kernel_rfl) (hr : (Region.ready md ops listed).contains i = true := by kernel_rfl) (hQ : ∀ c a w, Q (.panic c) (a.put o.dst undef) w → Q (.panic c) a w := by exact fun _ _ _ h => h) (hw : Region.wanted o (yielded ops a.tmps) = false := by kernel_rfl) : wpAnyH P md ops Q S (fuel + 1) listed a w := tkn hS hi hs hf hr hQ hw h

end Go.Proofs.Ytjnphelfloiadaa
namespace Go.Proofs.Ytjnphelfloiadaa

theorem nat_and_mask (x i : Nat) : x &&& (2 ^ i - 1) = x % 2 ^ i := Nat.and_two_pow_sub_one_eq_mod x i
theorem toNat_mod {a : Int} (h : 0 ≤ a) (n : Nat) (hd : a % (n : Int) = 0) : a.toNat % n = 0 := by
 obtain ⟨a, rfl⟩ := Int.eq_ofNat_of_zero_le h
 have : ((a % n : Nat) : Int) = 0 := by rw [Int.natCast_emod]; exact hd
 simpa using Int.ofNat_eq_zero.1 this

theorem or_u8 (i : Nat) {a b : Int} (h1 : 0 ≤ a) (h2 : a < 256) (hd : a % ((2 ^ i : Nat) : Int) = 0) (h3 : 0 ≤ b) (h4 : b < ((2 ^ i : Nat) : Int)) (h5 : b < 256) : bits .or .u8 a b = a + b := by
 rw [u8_or a b h1 h2 h3 h5, nat_join i _ _ (toNat_mod h1 _ hd) (by omega)]; omega
theorem or_u16 (i : Nat) {a b : Int} (h1 : 0 ≤ a) (h2 : a < 65536) (hd : a % ((2 ^ i : Nat) : Int) = 0) (h3 : 0 ≤ b) (h4 : b < ((2 ^ i : Nat) : Int)) (h5 : b < 65536) : bits .or .u16 a b = a + b := by
 rw [u16_or a b h1 h2 h3 h5, nat_join i _ _ (toNat_mod h1 _ hd) (by omega)]; omega
theorem or_u32 (i : Nat) {a b : Int} (h1 : 0 ≤ a) (h2 : a < 4294967296) (hd : a % ((2 ^ i : Nat) : Int) = 0) (h3 : 0 ≤ b) (h4 : b < ((2 ^ i : Nat) : Int)) (h5 : b < 4294967296) : bits .or .u32 a b = a + b := by
 rw [u32_or a b h1 h2 h3 h5, nat_join i _ _ (toNat_mod h1 _ hd) (by omega)]; omega
theorem and_u8 (i : Nat) {a : Int} (m : Int) (hm : m = ((2 ^ i - 1 : Nat) : Int)) (hi : m < 256) (h1 : 0 ≤ a) (h2 : a < 256) : bits .and .u8 a m = a % ((2 ^ i : Nat) : Int) := by
 subst hm
 rw [u8_and a _ h1 h2 (by omega) hi, Int.toNat_natCast, nat_and_mask]
 rw [Int.natCast_emod, Int.toNat_of_nonneg h1]
theorem and_u16 (i : Nat) {a : Int} (m : Int) (hm : m = ((2 ^ i - 1 : Nat) : Int)) (hi : m < 65536) (h1 : 0 ≤ a) (h2 : a < 65536) : bits .and .u16 a m = a % ((2 ^ i : Nat) : Int) := by
 subst hm
 rw [u16_and a _ h1 h2 (by omega) hi, Int.toNat_natCast, nat_and_mask]
 rw [Int.natCast_emod, Int.toNat_of_nonneg h1]
theorem and_u32 (i : Nat) {a : Int} (m : Int) (hm : m = ((2 ^ i - 1 : Nat) : Int)) (hi : m < 4294967296) (h1 : 0 ≤ a) (h2 : a < 4294967296) : bits .and .u32 a m = a % ((2 ^ i : Nat) : Int) := by
 subst hm
 rw [u32_and a _ h1 h2 (by omega) hi, Int.toNat_natCast, nat_and_mask]
 rw [Int.natCast_emod, Int.toNat_of_nonneg h1]
theorem nat_not (w x : Nat) (h : x < 2 ^ w) : (2 ^ w - 1) ^^^ x = 2 ^ w - 1 - x := by
 have h1 : (2 ^ w - 1) ^^^ x = (BitVec.allOnes w ^^^ BitVec.ofNat w x).toNat := by
  rw [BitVec.toNat_xor, BitVec.toNat_allOnes, BitVec.toNat_ofNat, Nat.mod_eq_of_lt h]
 rw [h1, BitVec.allOnes_xor, BitVec.toNat_not, BitVec.toNat_ofNat, Nat.mod_eq_of_lt h]
theorem not_u16 (x : Int) (h1 : 0 ≤ x) (h2 : x < 65536) : bits .xor .u16 IntKind.u16.max x = 65535 - x := by
 rw [show IntKind.u16.max = 65535 from rfl, u16_xor 65535 x (by omega) (by omega) h1 h2]
 have := nat_not 16 x.toNat (by omega)
 simp only [show (65535 : Int).toNat = 2 ^ 16 - 1 from rfl, this]
 omega
end Go.Proofs.Ytjnphelfloiadaa
namespace Go.Proofs.Ytjnphelfloiadaa
open Go.RowKit

section
variable {P : Program}
theorem st {ops : Array Oper} {w : World} {Q : Act → Prop} {a : Act} {o : Oper} {rest : List Oper} (v : Value) (hw : Region.wanted o (yielded ops a.tmps) = true) (hv : (execOp a.eval o).run P w = .ok (.value v) w)
  (h : wpStill P ops w Q rest (a.put o.dst v)) : wpStill P ops w Q (o :: rest) a :=
 wpStill_step fun K hK => by
  rw [if_pos hw]
  unfold Oper.still
  rw [hv]
  exact ⟨rfl, hK _ h⟩
theorem ex_bin {ρ : Operand → Value} {o : Oper} {op : BinOp} {t z : TypeId} {x y : Operand} {u u' v : Value} {w : World} (ho : o.op = .binOp op t x y z) (hx : ρ x = u) (hy : ρ y = u') (hn : op ≠ .eql ∧ op ≠ .neq) (h : (binOp op t u u').run P w = .ok v w) : (execOp ρ o).run P w = .ok (.value v) w := by
 subst hx hy
 unfold execOp
 simp only [ho]
 have hg : (eqGuard op t x y (ρ x) (ρ y)).run P w = .ok () w := by cases op <;> simp_all [eqGuard]
 simp only [Sem.run_bind, hg, Result.andThen_ok, h, Sem.run_pure]
end
end Go.Proofs.Ytjnphelfloiadaa
namespace Go.Proofs.Ytjnphelfloiadaa
open Go.RowKit

section
variable {P : Program}
theorem tk_store1 {md : Region.Mode} {ops : Array Oper} {Q : Exit → Act → World → Prop} {S : World → Prop} {i : Nat} {o : Oper} {ty : TypeId} {x y : Operand} {g k : Nat} {v old : Value} {fuel : Nat} {listed : Array Bool} {a : Act} {w : World} (hr : Region.ready md ops listed = [i]) (hi : ops.toList[i]? = some o) (hw : Region.wanted o (yielded ops a.tmps) = true)
  (ho : o.op = .store ty x y) (hx : a.eval x = .pointer (some ⟨g, k, none⟩)) (hy : a.eval y = v) (h1 : v.cells = #[v]) (hti : (P.info? ty).map (·.size) = some 1) (hc : w.cell? ⟨g, k, none⟩ = some old) (hf : w.frozen? ⟨g, k, none⟩ = false) (h2 : v.oneCell' = true)
  (hS : S (w.setCell ⟨g, k, none⟩ v)) (h : wpAnyH P md ops Q S fuel (listed.setIfInBounds i true) (a.put o.dst undef) (w.setCell ⟨g, k, none⟩ v)) : wpAnyH P md ops Q S (fuel + 1) listed a w :=
 wpAnyH_all hr (by simp) fun j hj => by
  obtain rfl : j = i := by simpa using hj
  have hi : ops[j]? = some o := by simpa using hi
  have hsz : (sizeOf ty).run P w = .ok 1 w := by
   cases hq : P.info? ty with
   | none => simp [hq] at hti
   | some i => simp [hq] at hti; simp [sizeOf, typeInfo, hq, hti]
  unfold wpOp
  rw [hi]
  simp only [hw, if_true]
  left
  have hst : (store ⟨g, k, none⟩ v).run P w = .ok () (w.setCell ⟨g, k, none⟩ v) := by rw [run_store P w _ v _ h2, hc]; simp [hf]
  have had : (⟨g, k, none⟩ : Addr).add 0 = ⟨g, k, none⟩ := by simp [Addr.add]
  unfold Oper.wp execOp
  simp only [ho, hx, hy, Instr.storeAt, Instr.sureAddr, Sem.run_bind, Sem.run_pure, Result.andThen_ok]
  have hsv : (storeVar ty ⟨g, k, none⟩ v).run P w = .ok () (w.setCell ⟨g, k, none⟩ v) := by simp [storeVar, hsz, h1, storeCells, had, hst]
  simp only [hsv, Result.andThen_ok, Oper.upon_skip]
  exact ⟨hS, h⟩
theorem ex_len {ρ : Operand → Value} {o : Oper} {t e : TypeId} {x : Operand} {A : Option Addr} {n c : Nat} {w : World} (ho : o.op = .call { callee := .builtin .len, args := #[x], argTypes := #[t] }) (ht : P.underlying t = some (.slice e)) (hx : ρ x = .slice A n c) : (execOp ρ o).run P w = .ok (.value (.int .i64 (n : Int))) w := by
 unfold execOp
 simp [ho, resolve, invoke, builtin, Builtin.len_, hx, run_underlying ht]
 rfl
theorem wl {ops : Array Oper} {rest : List Oper} {o : Oper} {a : Act} {w : World} {Q : Exit → Act → World → Prop} (v : Value) (hw : Region.wanted o (yielded ops a.tmps) = true) (hv : (execOp a.eval o).run P w = .ok (.value v) w)
  (h : wpList P ops Q rest (a.put o.dst v) w) : wpList P ops Q (o :: rest) a w :=
 wpList_step fun K hK => by
  rw [if_pos hw]
  unfold Oper.wp
  rw [hv]
  exact hK _ _ h
theorem ex_field {ρ : Operand → Value} {o : Oper} {s : TypeId} {x : Operand} {k g : Nat} {fs : Array Field} {f : Field} {w : World} (off m : Nat) (ho : o.op = .fieldAddr s x k) (hs : P.underlying s = some (.struct fs)) (hf : fs[k]? = some f) (hoff : f.offset = off) (hz : (P.info? f.type).map (·.size) = some (m + 1)) (hx : ρ x = .pointer (some ⟨g, 0, none⟩)) :
  (execOp ρ o).run P w = .ok (.value (.pointer (some ⟨g, off, none⟩))) w := by
 have hsz : (sizeOf f.type).run P w = .ok (m + 1) w := by
  cases hq : P.info? f.type with
  | none => simp [hq] at hz
  | some i => simp [hq] at hz; simp [sizeOf, typeInfo, hq, hz]
 subst hoff
 unfold execOp
 simp [ho, hx, Instr.fieldAt, run_underlying hs, hf, Instr.sureAddr, fieldPlace, hsz, Go.WideShapes.add_plain]
theorem eq_int_eq {ρ : Operand → Value} {o : Oper} {t z : TypeId} {k : IntKind} {x y : Operand} {m n : Int} {w : World} (ho : o.op = .binOp .eql t x y z) (hx : ρ x = .int k m) (hy : ρ y = .int k n) (h : m = n) : (execOp ρ o).run P w = .ok (.value (.bool true)) w := by
 rw [ex_eq_int ho hx hy]; simp [h]
theorem ex_eq_bool {ρ : Operand → Value} {o : Oper} {t z : TypeId} {x y : Operand} {b b' : Bool} {w : World} (ho : o.op = .binOp .eql t x y z) (ht : P.underlying t = some .bool) (hx : ρ x = .bool b) (hy : ρ y = .bool b') : (execOp ρ o).run P w = .ok (.value (.bool (b == b'))) w := by
 have he : (Op.equal t (.bool b) (.bool b')).run P w = .ok (b == b') w := run_equalIn_bool w 9999 t b b' ht
 unfold execOp
 simp [ho, hx, hy, eqGuard, binOp, he]
theorem eq_bool_eq {ρ : Operand → Value} {o : Oper} {t z : TypeId} {x y : Operand} {b b' : Bool} {w : World} (ho : o.op = .binOp .eql t x y z) (ht : P.underlying t = some .bool) (hx : ρ x = .bool b) (hy : ρ y = .bool b') (h : b = b') : (execOp ρ o).run P w = .ok (.value (.bool true)) w := by
 rw [ex_eq_bool ho ht hx hy]; simp [h]
theorem eq_int_ne {ρ : Operand → Value} {o : Oper} {t z : TypeId} {k : IntKind} {x y : Operand} {m n : Int} {w : World} (ho : o.op = .binOp .eql t x y z) (hx : ρ x = .int k m) (hy : ρ y = .int k n) (h : m ≠ n) : (execOp ρ o).run P w = .ok (.value (.bool false)) w := by
 rw [ex_eq_int ho hx hy]; simp [h]
end
end Go.Proofs.Ytjnphelfloiadaa
namespace Go.Proofs.Ytjnphelfloiadaa
open Go.RowKit

section
variable {P : Program}
theorem Has.loadAt {w : World} {g : Nat} {cs : Array Value} {t : TypeId} {fz : Nat × Nat} (h : Has w g (.cells cs t fz)) (off : Nat) (l : List Value) (hl : ∀ j v, l[j]? = some v → cs[off + j]? = some v) (ty : TypeId) {d : TypeDesc} (hu : P.underlying ty = some d) (hd : d.isRow = true) (hi : (P.info? ty).map (·.size) = some l.length) :
  (loadVar ty ⟨g, off, none⟩).run P w = .ok (.agg l.toArray) w :=
 run_loadVar_mid (P := P) w g off ty l d (fun j v hj => h.cell (off + j) (hl j v hj)) hu hd hi
theorem ex_loadAt {ρ : Operand → Value} {o : Oper} {ty : TypeId} {x : Operand} {b k : Nat} {v : Value} {w : World} (ho : o.op = .load ty x) (hx : ρ x = .pointer (some ⟨b, k, none⟩)) (h : (loadVar ty ⟨b, k, none⟩).run P w = .ok v w) : (execOp ρ o).run P w = .ok (.value v) w := by
 unfold execOp
 simp only [ho, hx, Instr.loadAt, Instr.sureAddr, Sem.run_bind, Sem.run_pure, h, Result.andThen_ok]
end
end Go.Proofs.Ytjnphelfloiadaa
namespace Go.Proofs.Ytjnphelfloiadaa
open Go.RowKit Go.Shelf

def zero4 : D4 := ⟨0, 0, false, false, 0, 0, 0, 0, 0, 0, 0, 0, 0, 0, 0, [], []⟩
/-- a datagram behind a hop -/
def hop4 (d : D4) : D4 := { d with ttl := d.ttl - 1 }
def D4.hop (d : D4) : D4 := if d.check ≠ 0 then zero4 else if d.ttl < 2 then zero4 else hop4 d
end Go.Proofs.Ytjnphelfloiadaa
namespace Go.Proofs.Ytjnphelfloiadaa
open Go.RowKit

def hl4 (l : List Int) : Int := l.getD 0 0 % 16 * 4
def tot4 (l : List Int) : Int := l.getD 2 0 * 256 + l.getD 3 0
/-- the error's number -/
def pe4 (part : Bool) (l : List Int) : Int :=
 if l.length < 20 then 40 else if l.getD 0 0 / 16 ≠ 4 then 41 else if hl4 l < 20 ∨ hl4 l > l.length then 42
 else if (part = false ∧ tot4 l ≠ l.length) ∨ (part = true ∧ (tot4 l < l.length ∨ tot4 l < hl4 l)) then 43
 else if part = false ∧ sumw (l.take (hl4 l).toNat) ≠ 65535 then 44 else 0
def of4 (l : List Int) : D4 :=
 ⟨l.getD 1 0, l.getD 4 0 * 256 + l.getD 5 0, decide (l.getD 6 0 / 64 % 2 = 1), decide (l.getD 6 0 / 32 % 2 = 1), l.getD 6 0 % 32 * 256 + l.getD 7 0, l.getD 8 0, l.getD 9 0,
  l.getD 12 0, l.getD 13 0, l.getD 14 0, l.getD 15 0, l.getD 16 0, l.getD 17 0, l.getD 18 0, l.getD 19 0, (l.drop 20).take ((hl4 l).toNat - 20), l.drop (hl4 l).toNat⟩
def got4 (part : Bool) (l : List Int) : D4 := if pe4 part l = 0 then of4 l else zero4

theorem pe4_intro {part : Bool} {l : List Int} (h1 : 20 ≤ l.length) (h2 : l.getD 0 0 / 16 = 4) (h3 : 20 ≤ hl4 l) (h4 : hl4 l ≤ l.length) (h5 : part = false → tot4 l = l.length) (h6 : part = true → l.length ≤ tot4 l ∧ hl4 l ≤ tot4 l) (h7 : part = false → sumw (l.take (hl4 l).toNat) = 65535) : pe4 part l = 0 := by
 unfold pe4
 have n1 : ¬ ((part = false ∧ tot4 l ≠ l.length) ∨ (part = true ∧ (tot4 l < l.length ∨ tot4 l < hl4 l))) := by
  rintro (⟨hp, hn⟩ | ⟨hp, hn⟩)
  ·exact hn (h5 hp)
  ·have := h6 hp; omega
 have n2 : ¬ (part = false ∧ sumw (l.take (hl4 l).toNat) ≠ 65535) := by rintro ⟨hp, hn⟩; exact hn (h7 hp)
 rw [if_neg (show ¬ l.length < 20 by omega), if_neg (Decidable.not_not.2 h2), if_neg (by omega), if_neg n1, if_neg n2]

theorem getD_app4 {l m : List Int} {i : Nat} (h : i < l.length) : (l ++ m).getD i 0 = l.getD i 0 := by
 rw [List.getD_eq_getElem?_getD, List.getD_eq_getElem?_getD, List.getElem?_append_left h]
theorem D4.first_len (d : D4) (s : Int) : (d.first s).length = 20 := rfl
theorem D4.first_get (d : D4) (s : Int) (r : List Int) {i : Nat} (h : i < 20) : (d.first s ++ r).getD i 0 = (d.first s).getD i 0 := getD_app4 h
/-- a header and any body -/
theorem D4.head_of (d : D4) (hd : d.ok) (hc : d.check = 0) (s : Int) (b : List Int) :
  hl4 (d.first s ++ (d.ol ++ b)) = 20 + d.ol.length ∧ (d.first s ++ (d.ol ++ b)).getD 0 0 / 16 = 4 ∧ tot4 (d.first s ++ (d.ol ++ b)) = 20 + d.ol.length + d.bl.length ∧ of4 (d.first s ++ (d.ol ++ b)) = { d with bl := b } := by
 obtain ⟨h1, h2, h3, h4⟩ := D4.ok_of_check hc
 have hid := hd.id
 have e0 : (d.first s ++ (d.ol ++ b)).getD 0 0 = 64 + (d.hl : Int) / 4 := d.first_get s _ (by decide)
 have e2 : (d.first s ++ (d.ol ++ b)).getD 2 0 = (d.hl + d.bl.length : Int) / 256 := d.first_get s _ (by decide)
 have e3 : (d.first s ++ (d.ol ++ b)).getD 3 0 = (d.hl + d.bl.length : Int) % 256 := d.first_get s _ (by decide)
 have e4 : (d.first s ++ (d.ol ++ b)).getD 4 0 = d.id / 256 := d.first_get s _ (by decide)
 have e5 : (d.first s ++ (d.ol ++ b)).getD 5 0 = d.id % 256 := d.first_get s _ (by decide)
 have e6 : (d.first s ++ (d.ol ++ b)).getD 6 0 = d.offw / 256 := d.first_get s _ (by decide)
 have e7 : (d.first s ++ (d.ol ++ b)).getD 7 0 = d.offw % 256 := d.first_get s _ (by decide)
 have eh : (d.hl : Int) = 20 + d.ol.length := by simp [D4.hl]
 have hH : hl4 (d.first s ++ (d.ol ++ b)) = 20 + d.ol.length := by unfold hl4; rw [e0, eh]; omega
 refine ⟨hH, by rw [e0, eh]; omega, by unfold tot4; rw [e2, e3, eh]; omega, ?_⟩
 have hn : (20 + (d.ol.length : Int)).toNat = 20 + d.ol.length := by omega
 have eo : ((d.first s ++ (d.ol ++ b)).drop 20).take (20 + d.ol.length - 20) = d.ol := by
  rw [List.drop_append_of_le_length (by rw [D4.first_len]; exact Nat.le_refl _), List.drop_of_length_le (by rw [D4.first_len]; exact Nat.le_refl _), List.nil_append, Nat.add_sub_cancel_left, List.take_append_of_le_length (Nat.le_refl _), List.take_length]
 have eb : (d.first s ++ (d.ol ++ b)).drop (20 + d.ol.length) = b := by
  rw [← List.append_assoc, List.drop_append, List.drop_of_length_le (by rw [List.length_append, D4.first_len]; exact Nat.le_refl _), List.length_append, D4.first_len, Nat.sub_self]
  rfl
 have q1 : (d.first s ++ (d.ol ++ b)).getD 1 0 = d.tos := d.first_get s _ (by decide)
 have q8 : (d.first s ++ (d.ol ++ b)).getD 8 0 = d.ttl := d.first_get s _ (by decide)
 have q9 : (d.first s ++ (d.ol ++ b)).getD 9 0 = d.proto := d.first_get s _ (by decide)
 have qa : (d.first s ++ (d.ol ++ b)).getD 12 0 = d.s0 := d.first_get s _ (by decide)
 have qb : (d.first s ++ (d.ol ++ b)).getD 13 0 = d.s1 := d.first_get s _ (by decide)
 have qc : (d.first s ++ (d.ol ++ b)).getD 14 0 = d.s2 := d.first_get s _ (by decide)
 have qd : (d.first s ++ (d.ol ++ b)).getD 15 0 = d.s3 := d.first_get s _ (by decide)
 have qe : (d.first s ++ (d.ol ++ b)).getD 16 0 = d.d0 := d.first_get s _ (by decide)
 have qf : (d.first s ++ (d.ol ++ b)).getD 17 0 = d.d1 := d.first_get s _ (by decide)
 have qg : (d.first s ++ (d.ol ++ b)).getD 18 0 = d.d2 := d.first_get s _ (by decide)
 have qh : (d.first s ++ (d.ol ++ b)).getD 19 0 = d.d3 := d.first_get s _ (by decide)
 have r5 : d.id / 256 * 256 + d.id % 256 = d.id := by omega
 have r6 : d.offw / 256 % 32 * 256 + d.offw % 256 = d.off := by unfold D4.offw; split <;> split <;> omega
 have r7 : decide (d.offw / 256 / 64 % 2 = 1) = d.df := by
  unfold D4.offw
  cases d.df <;> cases d.mf <;> simp <;> omega
 have r8 : decide (d.offw / 256 / 32 % 2 = 1) = d.mf := by
  unfold D4.offw
  cases d.df <;> cases d.mf <;> simp <;> omega
 unfold of4
 rw [hH, hn, e4, e5, e6, e7, eo, eb, q1, q8, q9, qa, qb, qc, qd, qe, qf, qg, qh, r5, r6, r7, r8]

def D4.pre (d : D4) : List Int := (d.first 0).take 10
def D4.post (d : D4) : List Int := (d.first 0).drop 12
theorem D4.bytes_eq (d : D4) : d.bytes = d.first d.sum ++ (d.ol ++ d.bl) := by unfold D4.bytes; rw [List.append_assoc]
theorem D4.bytes_len (d : D4) : d.bytes.length = 20 + d.ol.length + d.bl.length := by rw [D4.bytes_eq, List.length_append, List.length_append, D4.first_len]; omega
/-- cut off behind the header it is read as it, with less body -/
theorem D4.cut (d : D4) (hd : d.ok) (hc : d.check = 0) (n : Nat) (hn : n ≤ d.bl.length) : pe4 true (d.bytes.take (d.bytes.length - n)) = 0 ∧ got4 true (d.bytes.take (d.bytes.length - n)) = { d with bl := d.bl.take (d.bl.length - n) } := by
 obtain ⟨h1, h2, h3, h4⟩ := d.head_of hd hc d.sum (d.bl.take (d.bl.length - n))
 have hl := d.bytes_len
 have e : d.bytes.take (d.bytes.length - n) = d.first d.sum ++ (d.ol ++ d.bl.take (d.bl.length - n)) := by
  rw [hl, D4.bytes_eq, ← List.append_assoc, List.take_append, List.length_append, D4.first_len, List.take_of_length_le (by rw [List.length_append, D4.first_len]; omega), ← List.append_assoc]
  congr 2
  omega
 rw [e]
 have hl2 : (d.first d.sum ++ (d.ol ++ d.bl.take (d.bl.length - n))).length = 20 + d.ol.length + (d.bl.length - n) := by rw [List.length_append, List.length_append, D4.first_len, List.length_take]; omega
 have hz : pe4 true (d.first d.sum ++ (d.ol ++ d.bl.take (d.bl.length - n))) = 0 :=
  pe4_intro (by omega) h2 (by omega) (by omega) (fun h => by cases h) (fun _ => by rw [h3, hl2, h1]; omega) (fun h => by cases h)
 refine ⟨hz, ?_⟩
 unfold got4
 rw [if_pos hz, h4]
end Go.Proofs.Ytjnphelfloiadaa
namespace Go.Proofs.Ytjnphelfloiadaa
open Go.RowKit

def optBad (l : List Int) (k : Nat) : Prop := l.length < k + 2 ∨ l.getD (k + 1) 0 < 2 ∨ (l.length : Int) < k + l.getD (k + 1) 0
instance (l : List Int) (k : Nat) : Decidable (optBad l k) := by unfold optBad; infer_instance
end Go.Proofs.Ytjnphelfloiadaa
