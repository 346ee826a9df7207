/-
  Options: which bytes are which ones, in plain numbers.
-/
import Derived.Test.YtfkcejfjmfliaaaOpt
import Derived.Test.YtfkcejfjmfliaaaP4P
namespace Go.Proofs.Ytfkcejfjmfliaaa
open Go.RowKit

def optBad (l : List Int) (k : Nat) : Prop := l.length < k + 2 ∨ l.getD (k + 1) 0 < 2 ∨ (l.length : Int) < k + l.getD (k + 1) 0
instance (l : List Int) (k : Nat) : Decidable (optBad l k) := by unfold optBad; infer_instance
def optN (l : List Int) (k : Nat) : Nat := (l.getD (k + 1) 0).toNat
def optD (l : List Int) (k : Nat) : List Int := (l.take (k + optN l k)).drop (k + 2)
def optsF (l : List Int) : Nat → Nat → List (Int × List Int) → List (Int × List Int) × Int × Int
  | 0, _, acc => (acc, 0, 0)
  | f + 1, k, acc => if l.length ≤ k ∨ l.getD k 0 = 0 then (acc, 0, 0) else if l.getD k 0 = 1 then optsF l f (k + 1) acc else if optBad l k then (acc, k, 47) else optsF l f (k + optN l k) (acc ++ [(l.getD k 0, optD l k)])
def optsOf (l : List Int) : List (Int × List Int) × Int × Int := optsF l (l.length + 1) 0 []
/-- is it a source route that is not at its end? -/
def routOne (o : Int × List Int) : Bool := decide ((o.1 = 131 ∨ o.1 = 137) ∧ 0 < o.2.length ∧ o.2.getD 0 0 ≤ 2 + o.2.length)
def routF (l : List Int) : Nat → Nat → Bool
  | 0, _ => false
  | f + 1, k => if l.length ≤ k ∨ l.getD k 0 = 0 then false else if l.getD k 0 = 1 then routF l f (k + 1) else if optBad l k then false else if routOne (l.getD k 0, optD l k) = true then true else routF l f (k + optN l k)
def routOf (l : List Int) : Bool := routF l (l.length + 1) 0
theorem rout_opts (l : List Int) : ∀ (f k : Nat) (acc : List (Int × List Int)), (optsF l f k acc).1.any routOne = (acc.any routOne || routF l f k)
  | 0, k, acc => by simp [optsF, routF]
  | f + 1, k, acc => by
    rw [optsF, routF]
    split
    · simp
    · split
      · exact rout_opts l f (k + 1) acc
      · split
        · simp
        · rw [rout_opts l f _ _, List.any_append, List.any_cons, List.any_nil]
          split
          · rename_i h
            rw [h]
            cases acc.any routOne <;> rfl
          · rename_i h
            rw [Bool.not_eq_true] at h
            rw [h]
            cases acc.any routOne <;> rfl
theorem rout_of (l : List Int) : (optsOf l).1.any routOne = routOf l := by rw [optsOf, rout_opts]; simp [routOf]
theorem optD_len {l : List Int} {k : Nat} (h : ¬ optBad l k) : (optD l k).length + 2 = optN l k ∧ k + optN l k ≤ l.length := by
  unfold optBad at h
  unfold optD optN
  rw [List.length_drop, List.length_take]
  omega
theorem optD_rng {l : List Int} (h : InB l) (k : Nat) : InB (optD l k) := (h.take _).drop _
/-- how many there can be -/
theorem optsF_len (l : List Int) : ∀ (f k : Nat) (acc : List (Int × List Int)), k ≤ l.length → 2 * (optsF l f k acc).1.length ≤ 2 * acc.length + (l.length - k)
  | 0, k, acc, _ => by simp [optsF]
  | f + 1, k, acc, hk => by
    rw [optsF]
    split
    · simp
    · split
      · have := optsF_len l f (k + 1) acc (by omega)
        omega
      · split
        · simp
        · rename_i h1 h2 h3
          have ho := optD_len h3
          have := optsF_len l f (k + optN l k) (acc ++ [(l.getD k 0, optD l k)]) ho.2
          rw [List.length_append, List.length_singleton] at this
          omega

/-- the bytes of options -/
def pkOne (o : Int × List Int) : List Int := o.1 :: (2 + o.2.length : Int) :: o.2
def pkAll (os : List (Int × List Int)) : List Int := os.flatMap pkOne
def pkBadOne (o : Int × List Int) : Bool := decide (o.1 < 2 ∨ 38 < o.2.length)
def pkErr (os : List (Int × List Int)) : Int := if os.any pkBadOne = true then 47 else if 40 < (pkAll os).length then 2 else 0
def pad4 (l : List Int) : List Int := l ++ List.replicate ((4 - l.length % 4) % 4) 0
def pkBytes (os : List (Int × List Int)) : List Int := if pkErr os = 0 then pad4 (pkAll os) else []
theorem pkAll_append (os ps : List (Int × List Int)) : pkAll (os ++ ps) = pkAll os ++ pkAll ps := by simp [pkAll]
theorem pkAll_one (o : Int × List Int) : pkAll [o] = pkOne o := by simp [pkAll]
theorem pkOne_len (o : Int × List Int) : (pkOne o).length = 2 + o.2.length := by simp [pkOne]; omega
end Go.Proofs.Ytfkcejfjmfliaaa
