/-
  Lemmas and walks for the row of TosixPackets (part 42 of 45).
-/
import Derived.Test.YtijnifbpbgckgaaTpAD
set_option linter.unusedVariables false
set_option linter.unusedSimpArgs false
namespace Go.Proofs.Ytijnifbpbgckgaa
open Go.RowKit

section
variable {P : Program}
theorem arrN_equal (t e : TypeId) (n : Nat) (ht : P.underlying t = some (.array n e)) (he : P.underlying e = some (.int .u8)) (hs : (P.info? e).map (·.size) = some 1) (a b : List Int) (ha : a.length = n) (hb : b.length = n) (w : World) :
  (Op.equalIn 10000 t (.agg (u8s a).toArray) (.agg (u8s b).toArray)).run P w = .ok (decide (a = b)) w := by
 have hsz : (sizeOf e).run P w = .ok 1 w := by
  cases hq : P.info? e with
  | none => simp [hq] at hs
  | some i => simp [hq] at hs; simp [sizeOf, typeInfo, hq, hs]
 have hi : ∀ a b : Int, (Op.equalIn 9999 e (.int .u8 a) (.int .u8 b)).run P w = .ok (a == b) w := fun a b => run_equalIn_int w 9998 e .u8 .u8 a b he
 rw [show (10000 : Nat) = 9999 + 1 from rfl]
 unfold Op.equalIn
 have hagg : (isAgg e).run P w = .ok false w := by
  unfold isAgg
  rw [Sem.run_bind, run_underlying he w]
  rfl
 have hp : ∀ (cs : List Int) (i : Nat), i < cs.length → (part e (u8s cs).toArray i).run P w = .ok (.int .u8 (cs.getD i 0)) w := fun cs i hx => by
  have : (u8s cs)[i]? = some (.int .u8 (cs.getD i 0)) := by simp [u8s, hx, List.getD]
  simp [part, hagg, this]
 have key : ∀ (m i : Nat), i + m = n → (forIn (List.range' i m) ((none : Option Bool), ()) fun i (_ : Option Bool × Unit) => do
    let x ← part e (u8s a).toArray i
    let y ← part e (u8s b).toArray i
    let z ← Op.equalIn 9999 e x y
    if z = false then pure (ForInStep.done (some false, ())) else pure (ForInStep.yield (none, ()))).run P w = .ok (if a.drop i = b.drop i then (none, ()) else (some false, ())) w := by
  intro m
  induction m with
  | zero =>
   intro i hi
   rw [List.drop_of_length_le (by omega), List.drop_of_length_le (by omega)]
   simp
  | succ m ih =>
   intro i hin
   have ea : a.drop i = a.getD i 0 :: a.drop (i + 1) := by
    rw [List.drop_eq_getElem_cons (by omega)]
    simp [List.getD, List.getElem?_eq_getElem (show i < a.length by omega)]
   have eb : b.drop i = b.getD i 0 :: b.drop (i + 1) := by
    rw [List.drop_eq_getElem_cons (by omega)]
    simp [List.getD, List.getElem?_eq_getElem (show i < b.length by omega)]
   rw [List.range'_succ, List.forIn_cons, ea, eb]
   simp only [Sem.run_bind, hp a i (by omega), hp b i (by omega), Result.andThen_ok, hi]
   by_cases hq : a.getD i 0 = b.getD i 0
   ·have h2 : (a.getD i 0 == b.getD i 0) = true := by simpa using hq
    rw [h2]
    simp only [Bool.true_eq_false, if_false, Sem.run_pure, Result.andThen_ok]
    rw [ih (i + 1) (by omega), hq]
    simp
   ·have h2 : (a.getD i 0 == b.getD i 0) = false := by simpa using hq
    rw [h2, if_neg (show ¬ (a.getD i 0 :: a.drop (i + 1) = b.getD i 0 :: b.drop (i + 1)) from fun h => hq (List.cons.inj h).1)]
    simp only [if_true, Sem.run_pure, Result.andThen_ok]
 have k0 := key n 0 (by omega)
 rw [List.drop_zero, List.drop_zero] at k0
 simp [run_underlying ht, hsz, Std.Legacy.Range.forIn_eq_forIn_range']
 rw [k0]
 by_cases hab : a = b <;> simp [hab]
theorem ex_ne_arrN {ρ : Operand → Value} {o : Oper} {t z e : TypeId} {x y : Operand} {n : Nat} {a b : List Int} {w : World} {q : Bool} (ho : o.op = .binOp .neq t x y z) (ht : P.underlying t = some (.array n e)) (he : P.underlying e = some (.int .u8)) (hs : (P.info? e).map (·.size) = some 1) (hg : P.eqGuardType P.depth t = false)
  (hx : ρ x = .agg (u8s a).toArray) (hy : ρ y = .agg (u8s b).toArray) (ha : a.length = n) (hb : b.length = n) (h : (!decide (a = b)) = q) : (execOp ρ o).run P w = .ok (.value (.bool q)) w := by
 have h1 := arrN_equal t e n ht he hs a b ha hb w
 subst h
 unfold execOp
 have h3 := run_eqGuard_agg (P := P) w .neq t x y (u8s a).toArray (u8s b).toArray hg
 have h2 : (binOp .neq t (.agg (u8s a).toArray) (.agg (u8s b).toArray)).run P w = .ok (.bool (!decide (a = b))) w := by
  have h4 : (Op.equal t (.agg (u8s a).toArray) (.agg (u8s b).toArray)).run P w = .ok (decide (a = b)) w := h1
  simp [binOp, h4]
 simp only [ho, hx, hy, Sem.run_bind, h3, Result.andThen_ok, h2, Sem.run_pure]
end
end Go.Proofs.Ytijnifbpbgckgaa
