/-
  Lemmas and walks for the row of TofourPackets,TofourMessages,TofourInside (part 4 of 42).
-/
import Derived.Test.YtjnphelfloiadaaFpAB
import Derived.Deep.RegionHeld3
import Derived.Deep.MidRow
import Derived.BigFrame
import Derived.Laws.BitsAllLaws
import Derived.IntWalk
import Derived.StillTailTactics
set_option linter.unusedVariables false
set_option linter.unusedSimpArgs false
namespace Go.Proofs.Ytjnphelfloiadaa
open Go.RowKit

section
variable {P : Program} {md : Region.Mode} {ops : Array Oper} {Q : Exit → Act → World → Prop} {S : World → Prop}
theorem tk {i : Nat} {o : Oper} (v : Value) {fuel : Nat} {listed : Array Bool} {a : Act} {w : World} (hS : S w) (hi : ops.toList[i]? = some o)
  (hs : Region.noSelect ops = true) (hf : Region.free md ops listed i = true) (hr : (Region.ready md ops listed).contains i = true)
  (hQ : ∀ c a w, Q (.panic c) (a.put o.dst v) w → Q (.panic c) a w) (hw : Region.wanted o (yielded ops a.tmps) = true) (hv : ∀ w, S w → (execOp a.eval o).run P w = .ok (.value v) w)
  (h : wpAnyH P md ops Q S fuel (listed.setIfInBounds i true) (a.put o.dst v) w) : wpAnyH P md ops Q S (fuel + 1) listed a w := wpAnyH_take (by simpa using hi) hs hf hr hQ (.inl ⟨hw, hv⟩) hS h
theorem tkn {i : Nat} {o : Oper} {fuel : Nat} {listed : Array Bool} {a : Act} {w : World} (hS : S w) (hi : ops.toList[i]? = some o)
  (hs : Region.noSelect ops = true) (hf : Region.free md ops listed i = true) (hr : (Region.ready md ops listed).contains i = true)
  (hQ : ∀ c a w, Q (.panic c) (a.put o.dst undef) w → Q (.panic c) a w) (hw : Region.wanted o (yielded ops a.tmps) = false)
  (h : wpAnyH P md ops Q S fuel (listed.setIfInBounds i true) (a.put o.dst undef) w) : wpAnyH P md ops Q S (fuel + 1) listed a w := wpAnyH_take (by simpa using hi) hs hf hr hQ (.inr ⟨hw, rfl⟩) hS h
theorem ex_call {a : Act} {o : Oper} {k : Nat} {xs : Array Operand} {ats : Array TypeId} {args : Array Value} {fn : Func} {w : World} (ho : o.op = .call { callee := .value (.func k), args := xs, argTypes := ats }) (hf : P.funcs[k]? = some fn) (hn : (fn.name == "runtime.NumGoroutine") = false) (hb : fn.body.isNone = false)
  (hx : (xs.map a.eval) = args) : (execOp a.eval o).run P w = .ok (.enter k args) w := by
 subst hx
 have h1 : fn.name ≠ "runtime.NumGoroutine" := by simpa using hn
 obtain ⟨c, hc1⟩ : ∃ c, fn.body = some c := Option.isSome_iff_exists.1 (by simpa [Option.isNone_iff_eq_none, Option.isSome_iff_ne_none] using hb)
 have hc : ∀ args, (callFunc k args).run P w = .ok (.enter k args) w := fun args => by simp [callFunc, hf, h1, hc1]
 unfold execOp
 simp only [ho]
 have := hc (#[] ++ xs.map a.eval ++ #[])
 rw [Array.empty_append, Array.append_empty] at this
 rw [← this]
 simp [resolve, Deferred.ofValue, invoke, Act.eval]
theorem ex_conv {ρ : Operand → Value} {o : Oper} {src dst : TypeId} {x : Operand} {u v : Value} {w : World} (ho : o.op = .convert src dst x) (hx : ρ x = u) (h : (convert src dst u).run P w = .ok v w) : (execOp ρ o).run P w = .ok (.value v) w := by
 unfold execOp
 simp only [ho, hx, Sem.run_bind, Sem.run_pure, h, Result.andThen_ok]
theorem ex_load {ρ : Operand → Value} {o : Oper} {ty : TypeId} {x : Operand} {b : Nat} {v : Value} {w : World} (ho : o.op = .load ty x) (hx : ρ x = .pointer (some ⟨b, 0, none⟩)) (h : (loadVar ty ⟨b, 0, none⟩).run P w = .ok v w) : (execOp ρ o).run P w = .ok (.value v) w := by
 unfold execOp
 simp only [ho, hx, Instr.loadAt, Instr.sureAddr, Sem.run_bind, Sem.run_pure, h, Result.andThen_ok]
theorem ex_eq_str {ρ : Operand → Value} {o : Oper} {t z : TypeId} {x y : Operand} {s s' : ByteArray} {w : World} (ho : o.op = .binOp .eql t x y z) (hx : ρ x = .string s) (hy : ρ y = .string s') : (execOp ρ o).run P w = .ok (.value (.bool (s.toList == s'.toList))) w := by
 unfold execOp
 simp [ho, hx, hy, eqGuard, binOp, Op.stringOp]
theorem ex_eq_int {ρ : Operand → Value} {o : Oper} {t z : TypeId} {k : IntKind} {x y : Operand} {m n : Int} {w : World} (ho : o.op = .binOp .eql t x y z) (hx : ρ x = .int k m) (hy : ρ y = .int k n) : (execOp ρ o).run P w = .ok (.value (.bool (m == n))) w := by
 unfold execOp
 simp [ho, hx, hy, eqGuard, binOp, Op.intCmp]
theorem eq_str_self {ρ : Operand → Value} {o : Oper} {t z : TypeId} {x y : Operand} {s : ByteArray} {w : World} (ho : o.op = .binOp .eql t x y z) (hx : ρ x = .string s) (hy : ρ y = .string s) : (execOp ρ o).run P w = .ok (.value (.bool true)) w := by
 rw [ex_eq_str ho hx hy]; simp
theorem ex_index {ρ : Operand → Value} {o : Oper} {t e : TypeId} {x ix : Operand} {b off n c k : Nat} {w : World} (ho : o.op = .indexAddr t x ix) (ht : P.underlying t = some (.slice e)) (hs : (P.info? e).map (·.size) = some 1) (hx : ρ x = .slice (some ⟨b, off, none⟩) n c) (hi : ρ ix = .int .i64 (k : Int)) (hk : k < n) :
  (execOp ρ o).run P w = .ok (.value (.pointer (some ⟨b, off + k, none⟩))) w := by
 have hsz : (sizeOf e).run P w = .ok 1 w := by
  cases hq : P.info? e with
  | none => simp [hq] at hs
  | some i => simp [hq] at hs; simp [sizeOf, typeInfo, hq, hs]
 unfold execOp
 simp [ho, hx, hi, Instr.indexAt, run_underlying ht, hsz, hk, Go.WideShapes.add_plain, asIntOf]
theorem tk_store {i : Nat} {o : Oper} {ty : TypeId} {x y : Operand} {g : Nat} {cells : Array Value} {t : TypeId} {old : Array Value} {fuel : Nat} {listed : Array Bool} {a : Act} {w : World} (hr : Region.ready md ops listed = [i]) (hi : ops.toList[i]? = some o) (hw : Region.wanted o (yielded ops a.tmps) = true)
  (ho : o.op = .store ty x y) (hx : a.eval x = .pointer (some ⟨g, 0, none⟩)) (hy : a.eval y = .agg cells) (hg : Has w g (.cells old t (0, 0))) (hti : (P.info? ty).map (·.size) = some cells.size) (hold : old.size = cells.size) (h1 : cells.all (·.oneCell') = true)
  (hS : S (w.setRow g cells)) (h : wpAnyH P md ops Q S fuel (listed.setIfInBounds i true) (a.put o.dst undef) (w.setRow g cells)) : wpAnyH P md ops Q S (fuel + 1) listed a w :=
 wpAnyH_all hr (by simp) fun j hj => by
  obtain rfl : j = i := by simpa using hj
  have hi : ops[j]? = some o := by simpa using hi
  unfold wpOp
  rw [hi]
  simp only [hw, if_true]
  left
  exact wp_store_row ty x y ho g cells hx hy t old hg hti hold h1 ⟨hS, h⟩
theorem Has.load {w : World} {g : Nat} {cs : Array Value} {t : TypeId} {fz : Nat × Nat} (h : Has w g (.cells cs t fz)) (ty : TypeId) {d : TypeDesc} (hu : P.underlying ty = some d) (hd : d.isRow = true) (hi : (P.info? ty).map (·.size) = some cs.size) :
  (loadVar ty ⟨g, 0, none⟩).run P w = .ok (.agg cs) w := by
 have := run_loadVar_mid (P := P) w g 0 ty cs.toList d (fun j v hj => by rw [Nat.zero_add]; exact h.cell j (by simpa using hj)) hu hd (by simpa using hi)
 simpa using this
theorem ex_cell {ρ : Operand → Value} {o : Oper} {ty : TypeId} {x : Operand} {b k : Nat} {v : Value} {w : World} {d : TypeDesc} (ho : o.op = .load ty x) (hu : P.underlying ty = some d) (hd : d.isRow = false) (hx : ρ x = .pointer (some ⟨b, k, none⟩)) (h : w.cell? ⟨b, k, none⟩ = some v) : (execOp ρ o).run P w = .ok (.value v) w := by
 have hagg : (isAgg ty).run P w = .ok false w := by
  unfold isAgg
  rw [Sem.run_bind, run_underlying hu w]
  cases d <;> simp_all [TypeDesc.isRow]
 have hl : (loadVar ty ⟨b, k, none⟩).run P w = .ok v w := by
  simp [loadVar, Sem.run_bind, hagg, h]
 unfold execOp
 simp only [ho, hx, Instr.loadAt, Instr.sureAddr, Sem.run_bind, Sem.run_pure, hl, Result.andThen_ok]
theorem OwnB.setRow {w : World} {base g : Nat} {v : Value} {l : List Int} {cs : Array Value} (h : OwnB w base v l) (hg : g < base) : OwnB (w.setRow g cs) base v l := by
 refine ⟨⟨h.own.1, ?_⟩, h.rng⟩
 rcases h.own.2 with h0 | ⟨g', cap, cur, h0, hb, hh, rest⟩
 ·exact .inl h0
 ·exact .inr ⟨g', cap, cur, h0, hb, Has.setRow_other hh (by omega), rest⟩
theorem below_setRow' {w : World} {g : Nat} {cs : Array Value} : Below g w (w.setRow g cs) := below_setRow (Below.refl _ _) (Nat.le_refl _) _
theorem tk_callx {i k : Nat} {o : Oper} {args : Array Value} (T : Value → World → Prop) {fuel : Nat} {listed : Array Bool} {a : Act} {w : World} (hr : Region.ready md ops listed = [i]) (hi : ops.toList[i]? = some o) (hw : Region.wanted o (yielded ops a.tmps) = true)
  (hrun : (execOp a.eval o).run P w = .ok (.enter k args) w) (hc : Calls P k args w fun e w' => ∃ v, e = .returned v ∧ T v w' ∧ S w')
  (h : ∀ v w', T v w' → S w' → wpAnyH P md ops Q S fuel (listed.setIfInBounds i true) (a.put o.dst v) w') : wpAnyH P md ops Q S (fuel + 1) listed a w :=
 wpAnyH_all hr (by simp) fun j hj => by
  obtain rfl : j = i := by simpa using hj
  have hi : ops[j]? = some o := by simpa using hi
  unfold wpOp
  rw [hi]
  simp only [hw, if_true]
  left
  unfold Oper.wp
  rw [hrun, Oper.upon_enter]
  refine hc.mono fun e w' ⟨v, he, hT, hS'⟩ => ?_
  subst he
  exact ⟨hS', h v w' hT hS'⟩
theorem ex_slice {ρ : Operand → Value} {o : Oper} {t : TypeId} {x : Operand} {lo hi mx : Option Operand} {u v : Value} {w : World} (ho : o.op = .slice t x lo hi mx) (hx : ρ x = u) (h : (Instr.sliceAt t u (lo.map ρ) (hi.map ρ) (mx.map ρ)).run P w = .ok v w) : (execOp ρ o).run P w = .ok (.value v) w := by
 subst hx
 unfold execOp
 simp only [ho, Sem.run_bind, Sem.run_pure, h, Result.andThen_ok]
theorem By.from_ {B : Nat} {w : World} {A : Option Addr} {n c : Nat} {l : List Int} (h : By B w A n c l) (t : TypeId) (ht : P.underlying t = some (.slice 5)) (hs : (P.info? 5).map (·.size) = some 1) {k : Nat} (hk : k ≤ n) :
  ∃ A' c', (∀ w', (Instr.sliceAt t (.slice A n c) (some (.int .i64 (k : Int))) none none).run P w' = .ok (.slice A' (n - k) c') w') ∧ By B w A' (n - k) c' (l.drop k) := by
 refine ⟨_, _, fun w' => ?_, h.cut hk⟩
 have he : P.elem t = 5 := by simp [Program.elem, ht]
 have hsz : (sizeOf 5).run P w' = .ok 1 w' := by
  cases hq : P.info? 5 with
  | none => simp [hq] at hs
  | some i => simp [hq] at hs; simp [sizeOf, typeInfo, hq, hs]
 rw [run_sliceAt_slice w' t _ _ _ _ (by rw [he]; exact ht), run_slice_l w' t _ _ _ (by rw [he]; exact ht) .i64 (k : Int) (by omega) (by omega), he, hsz]
 simp [sliced, Result.andThen]
theorem By.to_ {B : Nat} {w : World} {A : Option Addr} {n c : Nat} {l : List Int} (h : By B w A n c l) (t : TypeId) (ht : P.underlying t = some (.slice 5)) (hs : (P.info? 5).map (·.size) = some 1) {k : Nat} (hk : k ≤ n) :
  (∀ w', (Instr.sliceAt t (.slice A n c) none (some (.int .i64 (k : Int))) none).run P w' = .ok (.slice A k c) w') ∧ By B w A k c (l.take k) := by
 refine ⟨fun w' => ?_, h.take hk⟩
 have hcap := h.cap
 have he : P.elem t = 5 := by simp [Program.elem, ht]
 have hsz : (sizeOf 5).run P w' = .ok 1 w' := by
  cases hq : P.info? 5 with
  | none => simp [hq] at hs
  | some i => simp [hq] at hs; simp [sizeOf, typeInfo, hq, hs]
 rw [run_sliceAt_slice w' t _ _ _ _ (by rw [he]; exact ht), run_slice_h w' t _ _ _ (by rw [he]; exact ht) .i64 (k : Int) (by omega) (by omega), he, hsz]
 cases A with
 | none => simp [sliced, Result.andThen]
 | some ad => simp [sliced, Result.andThen, Addr.add]
theorem res_cell {fn : Func} {tmps : Array Value} {a : Nat} {t : TypeId} {g : Nat} {v : Value} {w : World} (hr : fn.results = #[.cell a t]) (hx : tmps.getD a undef = .pointer (some ⟨g, 0, none⟩)) (hl : (loadVar t ⟨g, 0, none⟩).run P w = .ok v w) :
  (results fn tmps).run P w = .ok v w := by
 rw [Array.getD_eq_getD_getElem?] at hx
 simp [results, hr, hx, asAddr, hl]
theorem res_cell2 {fn : Func} {tmps : Array Value} {a b : Nat} {t : TypeId} {g : Nat} {v u : Value} {w : World} (hr : fn.results = #[.cell a t, .tmp b]) (hx : tmps.getD a undef = .pointer (some ⟨g, 0, none⟩)) (hl : (loadVar t ⟨g, 0, none⟩).run P w = .ok v w) (hb : tmps.getD b undef = u) :
  (results fn tmps).run P w = .ok (.tuple #[v, u]) w := by
 rw [Array.getD_eq_getD_getElem?] at hx hb
 simp [results, hr, hx, asAddr, hl, hb]
theorem res_cell3 {fn : Func} {tmps : Array Value} {a b c : Nat} {t : TypeId} {g : Nat} {v u u' : Value} {w : World} (hr : fn.results = #[.cell a t, .tmp b, .tmp c]) (hx : tmps.getD a undef = .pointer (some ⟨g, 0, none⟩)) (hl : (loadVar t ⟨g, 0, none⟩).run P w = .ok v w) (hb : tmps.getD b undef = u) (hc : tmps.getD c undef = u') :
  (results fn tmps).run P w = .ok (.tuple #[v, u, u']) w := by
 rw [Array.getD_eq_getD_getElem?] at hx hb hc
 simp [results, hr, hx, asAddr, hl, hb, hc]
end
theorem te {P : Program} {md : Region.Mode} {ops : Array Oper} {Q : Exit → Act → World → Prop} {S : World → Prop} (i : Nat) {o : Oper} (v : Value) {fuel : Nat} {listed : Array Bool} {a : Act} {w : World} (hS : S w) (hi : ops.toList[i]? = some o) (hv : ∀ w, S w → (execOp a.eval o).run P w = .ok (.value v) w) (h : wpAnyH P md ops Q S fuel (listed.setIfInBounds i true) (a.put o.dst v) w)
  (hs : Region.noSelect ops = true := by kernel_rfl) (hf : Region.free md ops listed i = true := by kernel_rfl) (hr : (Region.ready md ops listed).contains i = true := by kernel_rfl) (hQ : ∀ c a w, Q (.panic c) (a.put o.dst v) w → Q (.panic c) a w := by exact fun _ _ _ h => h) (hw : Region.wanted o (yielded ops a.tmps) = true := by kernel_rfl) : wpAnyH P md ops Q S (fuel + 1) listed a w := tk v hS hi hs hf hr hQ hw hv h
theorem tn {P : Program} {md : Region.Mode} {ops : Array Oper} {Q : Exit → Act → World → Prop} {S : World → Prop} (i : Nat) {o : Oper} {fuel : Nat} {listed : Array Bool} {a : Act} {w : World} (hS : S w) (hi : ops.toList[i]? = some o) (h : wpAnyH P md ops Q S fuel (listed.setIfInBounds i true) (a.put o.dst undef) w)
  (hs : Region.noSelect ops = true := by kernel_rfl) (hf : Region.free md ops listed i = true := by kernel_rfl) (hr : (Region.ready md ops listed).contains i = true := by kernel_rfl) (hQ : ∀ c a w, Q (.panic c) (a.put o.dst undef) w → Q (.panic c) a w := by exact fun _ _ _ h => h) (hw : Region.wanted o (yielded ops a.tmps) = false := by kernel_rfl) : wpAnyH P md ops Q S (fuel + 1) listed a w := tkn hS hi hs hf hr hQ hw h

end Go.Proofs.Ytjnphelfloiadaa
namespace Go.Proofs.Ytjnphelfloiadaa

theorem nat_and_mask (x i : Nat) : x &&& (2 ^ i - 1) = x % 2 ^ i := Nat.and_two_pow_sub_one_eq_mod x i
theorem toNat_mod {a : Int} (h : 0 ≤ a) (n : Nat) (hd : a % (n : Int) = 0) : a.toNat % n = 0 := by
 obtain ⟨a, rfl⟩ := Int.eq_ofNat_of_zero_le h
 have : ((a % n : Nat) : Int) = 0 := by rw [Int.natCast_emod]; exact hd
 simpa using Int.ofNat_eq_zero.1 this

theorem or_u8 (i : Nat) {a b : Int} (h1 : 0 ≤ a) (h2 : a < 256) (hd : a % ((2 ^ i : Nat) : Int) = 0) (h3 : 0 ≤ b) (h4 : b < ((2 ^ i : Nat) : Int)) (h5 : b < 256) : bits .or .u8 a b = a + b := by
 rw [u8_or a b h1 h2 h3 h5, nat_join i _ _ (toNat_mod h1 _ hd) (by omega)]; omega
theorem or_u16 (i : Nat) {a b : Int} (h1 : 0 ≤ a) (h2 : a < 65536) (hd : a % ((2 ^ i : Nat) : Int) = 0) (h3 : 0 ≤ b) (h4 : b < ((2 ^ i : Nat) : Int)) (h5 : b < 65536) : bits .or .u16 a b = a + b := by
 rw [u16_or a b h1 h2 h3 h5, nat_join i _ _ (toNat_mod h1 _ hd) (by omega)]; omega
theorem or_u32 (i : Nat) {a b : Int} (h1 : 0 ≤ a) (h2 : a < 4294967296) (hd : a % ((2 ^ i : Nat) : Int) = 0) (h3 : 0 ≤ b) (h4 : b < ((2 ^ i : Nat) : Int)) (h5 : b < 4294967296) : bits .or .u32 a b = a + b := by
 rw [u32_or a b h1 h2 h3 h5, nat_join i _ _ (toNat_mod h1 _ hd) (by omega)]; omega
theorem and_u8 (i : Nat) {a : Int} (m : Int) (hm : m = ((2 ^ i - 1 : Nat) : Int)) (hi : m < 256) (h1 : 0 ≤ a) (h2 : a < 256) : bits .and .u8 a m = a % ((2 ^ i : Nat) : Int) := by
 subst hm
 rw [u8_and a _ h1 h2 (by omega) hi, Int.toNat_natCast, nat_and_mask]
 rw [Int.natCast_emod, Int.toNat_of_nonneg h1]
theorem and_u16 (i : Nat) {a : Int} (m : Int) (hm : m = ((2 ^ i - 1 : Nat) : Int)) (hi : m < 65536) (h1 : 0 ≤ a) (h2 : a < 65536) : bits .and .u16 a m = a % ((2 ^ i : Nat) : Int) := by
 subst hm
 rw [u16_and a _ h1 h2 (by omega) hi, Int.toNat_natCast, nat_and_mask]
 rw [Int.natCast_emod, Int.toNat_of_nonneg h1]
theorem and_u32 (i : Nat) {a : Int} (m : Int) (hm : m = ((2 ^ i - 1 : Nat) : Int)) (hi : m < 4294967296) (h1 : 0 ≤ a) (h2 : a < 4294967296) : bits .and .u32 a m = a % ((2 ^ i : Nat) : Int) := by
 subst hm
 rw [u32_and a _ h1 h2 (by omega) hi, Int.toNat_natCast, nat_and_mask]
 rw [Int.natCast_emod, Int.toNat_of_nonneg h1]
theorem nat_not (w x : Nat) (h : x < 2 ^ w) : (2 ^ w - 1) ^^^ x = 2 ^ w - 1 - x := by
 have h1 : (2 ^ w - 1) ^^^ x = (BitVec.allOnes w ^^^ BitVec.ofNat w x).toNat := by
  rw [BitVec.toNat_xor, BitVec.toNat_allOnes, BitVec.toNat_ofNat, Nat.mod_eq_of_lt h]
 rw [h1, BitVec.allOnes_xor, BitVec.toNat_not, BitVec.toNat_ofNat, Nat.mod_eq_of_lt h]
theorem not_u16 (x : Int) (h1 : 0 ≤ x) (h2 : x < 65536) : bits .xor .u16 IntKind.u16.max x = 65535 - x := by
 rw [show IntKind.u16.max = 65535 from rfl, u16_xor 65535 x (by omega) (by omega) h1 h2]
 have := nat_not 16 x.toNat (by omega)
 simp only [show (65535 : Int).toNat = 2 ^ 16 - 1 from rfl, this]
 omega
end Go.Proofs.Ytjnphelfloiadaa
namespace Go.Proofs.Ytjnphelfloiadaa
open Go.RowKit

section
variable {P : Program}
theorem st {ops : Array Oper} {w : World} {Q : Act → Prop} {a : Act} {o : Oper} {rest : List Oper} (v : Value) (hw : Region.wanted o (yielded ops a.tmps) = true) (hv : (execOp a.eval o).run P w = .ok (.value v) w)
  (h : wpStill P ops w Q rest (a.put o.dst v)) : wpStill P ops w Q (o :: rest) a :=
 wpStill_step fun K hK => by
  rw [if_pos hw]
  unfold Oper.still
  rw [hv]
  exact ⟨rfl, hK _ h⟩
theorem ex_bin {ρ : Operand → Value} {o : Oper} {op : BinOp} {t z : TypeId} {x y : Operand} {u u' v : Value} {w : World} (ho : o.op = .binOp op t x y z) (hx : ρ x = u) (hy : ρ y = u') (hn : op ≠ .eql ∧ op ≠ .neq) (h : (binOp op t u u').run P w = .ok v w) : (execOp ρ o).run P w = .ok (.value v) w := by
 subst hx hy
 unfold execOp
 simp only [ho]
 have hg : (eqGuard op t x y (ρ x) (ρ y)).run P w = .ok () w := by cases op <;> simp_all [eqGuard]
 simp only [Sem.run_bind, hg, Result.andThen_ok, h, Sem.run_pure]
end
section
variable {P : Program}
theorem tk_store1 {md : Region.Mode} {ops : Array Oper} {Q : Exit → Act → World → Prop} {S : World → Prop} {i : Nat} {o : Oper} {ty : TypeId} {x y : Operand} {g k : Nat} {v old : Value} {fuel : Nat} {listed : Array Bool} {a : Act} {w : World} (hr : Region.ready md ops listed = [i]) (hi : ops.toList[i]? = some o) (hw : Region.wanted o (yielded ops a.tmps) = true)
  (ho : o.op = .store ty x y) (hx : a.eval x = .pointer (some ⟨g, k, none⟩)) (hy : a.eval y = v) (h1 : v.cells = #[v]) (hti : (P.info? ty).map (·.size) = some 1) (hc : w.cell? ⟨g, k, none⟩ = some old) (hf : w.frozen? ⟨g, k, none⟩ = false) (h2 : v.oneCell' = true)
  (hS : S (w.setCell ⟨g, k, none⟩ v)) (h : wpAnyH P md ops Q S fuel (listed.setIfInBounds i true) (a.put o.dst undef) (w.setCell ⟨g, k, none⟩ v)) : wpAnyH P md ops Q S (fuel + 1) listed a w :=
 wpAnyH_all hr (by simp) fun j hj => by
  obtain rfl : j = i := by simpa using hj
  have hi : ops[j]? = some o := by simpa using hi
  have hsz : (sizeOf ty).run P w = .ok 1 w := by
   cases hq : P.info? ty with
   | none => simp [hq] at hti
   | some i => simp [hq] at hti; simp [sizeOf, typeInfo, hq, hti]
  unfold wpOp
  rw [hi]
  simp only [hw, if_true]
  left
  have hst : (store ⟨g, k, none⟩ v).run P w = .ok () (w.setCell ⟨g, k, none⟩ v) := by rw [run_store P w _ v _ h2, hc]; simp [hf]
  have had : (⟨g, k, none⟩ : Addr).add 0 = ⟨g, k, none⟩ := by simp [Addr.add]
  unfold Oper.wp execOp
  simp only [ho, hx, hy, Instr.storeAt, Instr.sureAddr, Sem.run_bind, Sem.run_pure, Result.andThen_ok]
  have hsv : (storeVar ty ⟨g, k, none⟩ v).run P w = .ok () (w.setCell ⟨g, k, none⟩ v) := by simp [storeVar, hsz, h1, storeCells, had, hst]
  simp only [hsv, Result.andThen_ok, Oper.upon_skip]
  exact ⟨hS, h⟩
theorem ex_len {ρ : Operand → Value} {o : Oper} {t e : TypeId} {x : Operand} {A : Option Addr} {n c : Nat} {w : World} (ho : o.op = .call { callee := .builtin .len, args := #[x], argTypes := #[t] }) (ht : P.underlying t = some (.slice e)) (hx : ρ x = .slice A n c) : (execOp ρ o).run P w = .ok (.value (.int .i64 (n : Int))) w := by
 unfold execOp
 simp [ho, resolve, invoke, builtin, Builtin.len_, hx, run_underlying ht]
 rfl
theorem wl {ops : Array Oper} {rest : List Oper} {o : Oper} {a : Act} {w : World} {Q : Exit → Act → World → Prop} (v : Value) (hw : Region.wanted o (yielded ops a.tmps) = true) (hv : (execOp a.eval o).run P w = .ok (.value v) w)
  (h : wpList P ops Q rest (a.put o.dst v) w) : wpList P ops Q (o :: rest) a w :=
 wpList_step fun K hK => by
  rw [if_pos hw]
  unfold Oper.wp
  rw [hv]
  exact hK _ _ h
theorem wl_box {ops : Array Oper} {rest : List Oper} {o : Oper} {a : Act} {w : World} {Q : Exit → Act → World → Prop} (t : TypeId) (x : Operand) (cs : Array Value) (hg : o.guard = none) (ho : o.op = .box t x) (hx : a.eval x = .agg cs)
  (h : wpList P ops Q rest (a.put o.dst (.pointer (some ⟨w.heap.size, 0, none⟩))) (w.alloc (.cells cs t))) : wpList P ops Q (o :: rest) a w :=
 wpList_plain hg fun K hK => by
  unfold Oper.wp execOp
  simp only [ho, hx]
  exact hK _ _ h
def skipRun (ops : Array Oper) : List Oper → Array Value → Option (Array Value)
 | [], t => some t
 | o :: rest, t =>
  if Region.wanted o (yielded ops t) = true then
   match o.op with
   | .move x => skipRun ops rest ((⟨t, []⟩ : Act).put o.dst ((⟨t, []⟩ : Act).eval x)).tmps
   | .assign x => skipRun ops rest ((⟨t, []⟩ : Act).put o.dst ((⟨t, []⟩ : Act).eval x)).tmps
   | .pick c x y => match (⟨t, []⟩ : Act).eval c with
    | .bool b => skipRun ops rest ((⟨t, []⟩ : Act).put o.dst (if b then (⟨t, []⟩ : Act).eval x else (⟨t, []⟩ : Act).eval y)).tmps
    | _ => none
   | _ => none
  else skipRun ops rest ((⟨t, []⟩ : Act).put o.dst undef).tmps
theorem put_tmps (t : Array Value) (d : Option Tmp) (v : Value) : (⟨t, []⟩ : Act).put d v = ⟨((⟨t, []⟩ : Act).put d v).tmps, []⟩ := by
 cases d <;> rfl
theorem skip_ok {ops : Array Oper} {w : World} {Q : Exit → Act → World → Prop} {t' : Array Value} : ∀ (rest : List Oper) (t : Array Value), skipRun ops rest t = some t' → Q .normal ⟨t', []⟩ w → wpList P ops Q rest ⟨t, []⟩ w
 | [], t, h, hq => by
  simp only [skipRun, Option.some.injEq] at h
  subst h
  exact hq
 | o :: rest, t, h, hq => by
  unfold skipRun at h
  refine wpList_step fun K hK => ?_
  split at h
  ·rename_i hw
   rw [if_pos hw]
   unfold Oper.wp execOp
   split at h
   ·rename_i x hx
    simp only [hx]
    refine hK _ _ ?_
    rw [put_tmps]
    exact skip_ok rest _ h hq
   ·rename_i x hx
    simp only [hx]
    refine hK _ _ ?_
    rw [put_tmps]
    exact skip_ok rest _ h hq
   ·rename_i c x y hx
    split at h
    ·rename_i b hb
     simp only [hx, hb]
     refine hK _ _ ?_
     rw [put_tmps]
     exact skip_ok rest _ h hq
    ·cases h
   ·cases h
  ·rename_i hw
   rw [if_neg hw]
   refine hK _ _ ?_
   rw [put_tmps]
   exact skip_ok rest _ h hq
theorem ex_field {ρ : Operand → Value} {o : Oper} {s : TypeId} {x : Operand} {k g : Nat} {fs : Array Field} {f : Field} {w : World} (off m : Nat) (ho : o.op = .fieldAddr s x k) (hs : P.underlying s = some (.struct fs)) (hf : fs[k]? = some f) (hoff : f.offset = off) (hz : (P.info? f.type).map (·.size) = some (m + 1)) (hx : ρ x = .pointer (some ⟨g, 0, none⟩)) :
  (execOp ρ o).run P w = .ok (.value (.pointer (some ⟨g, off, none⟩))) w := by
 have hsz : (sizeOf f.type).run P w = .ok (m + 1) w := by
  cases hq : P.info? f.type with
  | none => simp [hq] at hz
  | some i => simp [hq] at hz; simp [sizeOf, typeInfo, hq, hz]
 subst hoff
 unfold execOp
 simp [ho, hx, Instr.fieldAt, run_underlying hs, hf, Instr.sureAddr, fieldPlace, hsz, Go.WideShapes.add_plain]
theorem eq_int_eq {ρ : Operand → Value} {o : Oper} {t z : TypeId} {k : IntKind} {x y : Operand} {m n : Int} {w : World} (ho : o.op = .binOp .eql t x y z) (hx : ρ x = .int k m) (hy : ρ y = .int k n) (h : m = n) : (execOp ρ o).run P w = .ok (.value (.bool true)) w := by
 rw [ex_eq_int ho hx hy]; simp [h]
theorem eq_str_eq {ρ : Operand → Value} {o : Oper} {t z : TypeId} {x y : Operand} {s s' : ByteArray} {w : World} (ho : o.op = .binOp .eql t x y z) (hx : ρ x = .string s) (hy : ρ y = .string s') (h : s = s') : (execOp ρ o).run P w = .ok (.value (.bool true)) w := by
 rw [ex_eq_str ho hx hy]; simp [h]
theorem ex_eq_bool {ρ : Operand → Value} {o : Oper} {t z : TypeId} {x y : Operand} {b b' : Bool} {w : World} (ho : o.op = .binOp .eql t x y z) (ht : P.underlying t = some .bool) (hx : ρ x = .bool b) (hy : ρ y = .bool b') : (execOp ρ o).run P w = .ok (.value (.bool (b == b'))) w := by
 have he : (Op.equal t (.bool b) (.bool b')).run P w = .ok (b == b') w := run_equalIn_bool w 9999 t b b' ht
 unfold execOp
 simp [ho, hx, hy, eqGuard, binOp, he]
theorem eq_bool_eq {ρ : Operand → Value} {o : Oper} {t z : TypeId} {x y : Operand} {b b' : Bool} {w : World} (ho : o.op = .binOp .eql t x y z) (ht : P.underlying t = some .bool) (hx : ρ x = .bool b) (hy : ρ y = .bool b') (h : b = b') : (execOp ρ o).run P w = .ok (.value (.bool true)) w := by
 rw [ex_eq_bool ho ht hx hy]; simp [h]
theorem eq_bool_ne {ρ : Operand → Value} {o : Oper} {t z : TypeId} {x y : Operand} {b b' : Bool} {w : World} (ho : o.op = .binOp .eql t x y z) (ht : P.underlying t = some .bool) (hx : ρ x = .bool b) (hy : ρ y = .bool b') (h : b ≠ b') : (execOp ρ o).run P w = .ok (.value (.bool false)) w := by
 rw [ex_eq_bool ho ht hx hy]; simp [h]
theorem res_tmp {fn : Func} {tmps : Array Value} {a : Nat} {v : Value} {w : World} (hr : fn.results = #[.tmp a]) (hx : tmps.getD a undef = v) : (results fn tmps).run P w = .ok v w := by
 rw [Array.getD_eq_getD_getElem?] at hx
 simp [results, hr, hx]
theorem eq_int_ne {ρ : Operand → Value} {o : Oper} {t z : TypeId} {k : IntKind} {x y : Operand} {m n : Int} {w : World} (ho : o.op = .binOp .eql t x y z) (hx : ρ x = .int k m) (hy : ρ y = .int k n) (h : m ≠ n) : (execOp ρ o).run P w = .ok (.value (.bool false)) w := by
 rw [ex_eq_int ho hx hy]; simp [h]
theorem eq_str_ne {ρ : Operand → Value} {o : Oper} {t z : TypeId} {x y : Operand} {s s' : ByteArray} {w : World} (ho : o.op = .binOp .eql t x y z) (hx : ρ x = .string s) (hy : ρ y = .string s') (h : (s.toList == s'.toList) = false) : (execOp ρ o).run P w = .ok (.value (.bool false)) w := by
 rw [ex_eq_str ho hx hy, h]
end
theorem xf9 {P : Program} {ρ : Operand → Value} {o : Oper} {s : TypeId} {x : Operand} {k g : Nat} {fs : Array Field} {f : Field} {w : World} (off m : Nat) (hs : P.underlying s = some (.struct fs)) (ho : o.op = .fieldAddr s x k := by exact rfl) (hf : fs[k]? = some f := by exact rfl) (hoff : f.offset = off := by exact rfl) (hz : (P.info? f.type).map (·.size) = some (m + 1) := by kernel_rfl) (hx : ρ x = .pointer (some ⟨g, 0, none⟩) := by exact rfl) : (execOp ρ o).run P w = .ok (.value (.pointer (some ⟨g, off, none⟩))) w := ex_field off m ho hs hf hoff hz hx
section
variable {P : Program}
theorem ex_index2 {ρ : Operand → Value} {o : Oper} {t e : TypeId} {x ix : Operand} {b off n c k : Nat} {w : World} (ho : o.op = .indexAddr t x ix) (ht : P.underlying t = some (.slice e)) (hs : (P.info? e).map (·.size) = some 2) (hx : ρ x = .slice (some ⟨b, off, none⟩) n c) (hi : ρ ix = .int .i64 (k : Int)) (hk : k < n) :
  (execOp ρ o).run P w = .ok (.value (.pointer (some ⟨b, off + k * 2, none⟩))) w := by
 have hsz : (sizeOf e).run P w = .ok 2 w := by
  cases hq : P.info? e with
  | none => simp [hq] at hs
  | some i => simp [hq] at hs; simp [sizeOf, typeInfo, hq, hs]
 unfold execOp
 simp [ho, hx, hi, Instr.indexAt, run_underlying ht, hsz, hk, Go.WideShapes.add_plain, asIntOf]
theorem ex_field1 {ρ : Operand → Value} {o : Oper} {s : TypeId} {x : Operand} {k g q : Nat} {fs : Array Field} {f : Field} {w : World} (ho : o.op = .fieldAddr s x k) (hs : P.underlying s = some (.struct fs)) (hf : fs[k]? = some f) (hoff : f.offset = 1) (hz : (P.info? f.type).map (·.size) = some 1) (hx : ρ x = .pointer (some ⟨g, q, none⟩)) :
  (execOp ρ o).run P w = .ok (.value (.pointer (some ⟨g, q + 1, none⟩))) w := by
 have hsz : (sizeOf f.type).run P w = .ok 1 w := by
  cases hq : P.info? f.type with
  | none => simp [hq] at hz
  | some i => simp [hq] at hz; simp [sizeOf, typeInfo, hq, hz]
 unfold execOp
 simp [ho, hx, Instr.fieldAt, run_underlying hs, hf, Instr.sureAddr, fieldPlace, hsz, Go.WideShapes.add_plain, hoff]
end
section
variable {P : Program}
theorem arr4_equal (t e : TypeId) (ht : P.underlying t = some (.array 4 e)) (he : P.underlying e = some (.int .u8)) (hs : (P.info? e).map (·.size) = some 1) (a0 a1 a2 a3 b0 b1 b2 b3 : Int) (w : World) :
  (Op.equalIn 10000 t (.agg #[.int .u8 a0, .int .u8 a1, .int .u8 a2, .int .u8 a3]) (.agg #[.int .u8 b0, .int .u8 b1, .int .u8 b2, .int .u8 b3])).run P w = .ok (decide ([a0, a1, a2, a3] = [b0, b1, b2, b3])) w := by
 have hsz : (sizeOf e).run P w = .ok 1 w := by
  cases hq : P.info? e with
  | none => simp [hq] at hs
  | some i => simp [hq] at hs; simp [sizeOf, typeInfo, hq, hs]
 have hi : ∀ a b : Int, (Op.equalIn 9999 e (.int .u8 a) (.int .u8 b)).run P w = .ok (a == b) w := fun a b => run_equalIn_int w 9998 e .u8 .u8 a b he
 rw [show (10000 : Nat) = 9999 + 1 from rfl]
 unfold Op.equalIn
 have hagg : (isAgg e).run P w = .ok false w := by
  unfold isAgg
  rw [Sem.run_bind, run_underlying he w]
  rfl
 have hp : ∀ (cs : Array Value) (i : Nat) (x : Int), cs[i]? = some (.int .u8 x) → (part e cs i).run P w = .ok (.int .u8 x) w := fun cs i x hx => by simp [part, hagg, hx]
 have p0 := hp #[.int .u8 a0, .int .u8 a1, .int .u8 a2, .int .u8 a3] 0 a0 rfl
 have p1 := hp #[.int .u8 a0, .int .u8 a1, .int .u8 a2, .int .u8 a3] 1 a1 rfl
 have p2 := hp #[.int .u8 a0, .int .u8 a1, .int .u8 a2, .int .u8 a3] 2 a2 rfl
 have p3 := hp #[.int .u8 a0, .int .u8 a1, .int .u8 a2, .int .u8 a3] 3 a3 rfl
 have r0 := hp #[.int .u8 b0, .int .u8 b1, .int .u8 b2, .int .u8 b3] 0 b0 rfl
 have r1 := hp #[.int .u8 b0, .int .u8 b1, .int .u8 b2, .int .u8 b3] 1 b1 rfl
 have r2 := hp #[.int .u8 b0, .int .u8 b1, .int .u8 b2, .int .u8 b3] 2 b2 rfl
 have r3 := hp #[.int .u8 b0, .int .u8 b1, .int .u8 b2, .int .u8 b3] 3 b3 rfl
 clear hp
 simp [run_underlying ht, hsz, Std.Legacy.Range.forIn_eq_forIn_range', List.range', hi, p0, p1, p2, p3, r0, r1, r2, r3]
 by_cases h0 : a0 = b0 <;> by_cases h1 : a1 = b1 <;> by_cases h2 : a2 = b2 <;> by_cases h3 : a3 = b3 <;> simp [h0, h1, h2, h3]
theorem eq_arr4 {ρ : Operand → Value} {o : Oper} {t z e : TypeId} {x y : Operand} {a0 a1 a2 a3 b0 b1 b2 b3 : Int} {w : World} {q : Bool} (ho : o.op = .binOp .eql t x y z) (ht : P.underlying t = some (.array 4 e)) (he : P.underlying e = some (.int .u8)) (hs : (P.info? e).map (·.size) = some 1) (hg : P.eqGuardType P.depth t = false)
  (hx : ρ x = .agg #[.int .u8 a0, .int .u8 a1, .int .u8 a2, .int .u8 a3]) (hy : ρ y = .agg #[.int .u8 b0, .int .u8 b1, .int .u8 b2, .int .u8 b3]) (h : decide ([a0, a1, a2, a3] = [b0, b1, b2, b3]) = q) : (execOp ρ o).run P w = .ok (.value (.bool q)) w := by
 have h1 := arr4_equal t e ht he hs a0 a1 a2 a3 b0 b1 b2 b3 w
 have h2 := run_eql_struct (P := P) w t #[.int .u8 a0, .int .u8 a1, .int .u8 a2, .int .u8 a3] #[.int .u8 b0, .int .u8 b1, .int .u8 b2, .int .u8 b3]
 rw [h1] at h2
 subst h
 unfold execOp
 have h3 := run_eqGuard_agg (P := P) w .eql t x y #[.int .u8 a0, .int .u8 a1, .int .u8 a2, .int .u8 a3] #[.int .u8 b0, .int .u8 b1, .int .u8 b2, .int .u8 b3] hg
 simp only [ho, hx, hy, Sem.run_bind, h3, Result.andThen_ok, h2, Sem.run_pure]
theorem Has.loadAt {w : World} {g : Nat} {cs : Array Value} {t : TypeId} {fz : Nat × Nat} (h : Has w g (.cells cs t fz)) (off : Nat) (l : List Value) (hl : ∀ j v, l[j]? = some v → cs[off + j]? = some v) (ty : TypeId) {d : TypeDesc} (hu : P.underlying ty = some d) (hd : d.isRow = true) (hi : (P.info? ty).map (·.size) = some l.length) :
  (loadVar ty ⟨g, off, none⟩).run P w = .ok (.agg l.toArray) w :=
 run_loadVar_mid (P := P) w g off ty l d (fun j v hj => h.cell (off + j) (hl j v hj)) hu hd hi
theorem ex_loadAt {ρ : Operand → Value} {o : Oper} {ty : TypeId} {x : Operand} {b k : Nat} {v : Value} {w : World} (ho : o.op = .load ty x) (hx : ρ x = .pointer (some ⟨b, k, none⟩)) (h : (loadVar ty ⟨b, k, none⟩).run P w = .ok v w) : (execOp ρ o).run P w = .ok (.value v) w := by
 unfold execOp
 simp only [ho, hx, Instr.loadAt, Instr.sureAddr, Sem.run_bind, Sem.run_pure, h, Result.andThen_ok]
end
end Go.Proofs.Ytjnphelfloiadaa
