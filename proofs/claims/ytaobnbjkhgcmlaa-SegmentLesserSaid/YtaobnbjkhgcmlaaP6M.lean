/-
  Where the maximum segment size stands in options: in plain numbers.
-/
import Derived.Test.YtaobnbjkhgcmlaaP6P
namespace Go.Proofs.Ytaobnbjkhgcmlaa
open Go.RowKit

def mssF (o : List Int) : Nat → Nat → Int
  | 0, _ => -1
  | f + 1, i =>
    if o.length ≤ i ∨ o.getD i 0 = 0 then -1
    else if o.getD i 0 = 1 then mssF o f (i + 1)
    else if o.length < i + 2 ∨ o.getD (i + 1) 0 < 2 ∨ (o.length : Int) < i + o.getD (i + 1) 0 then -1
    else if o.getD i 0 = 2 ∧ o.getD (i + 1) 0 = 4 then i + 2
    else mssF o f (i + (o.getD (i + 1) 0).toNat)
def mssAt (t : DT) : Int := if bits .and .u8 t.flags 2 = 0 then -1 else mssF t.ol (t.ol.length + 1) 0
theorem mssF_rng (o : List Int) : ∀ f i, mssF o f i = -1 ∨ (2 ≤ mssF o f i ∧ mssF o f i + 2 ≤ o.length)
  | 0, _ => .inl rfl
  | f + 1, i => by
    rw [mssF]
    split
    · exact .inl rfl
    · split
      · exact mssF_rng o f _
      · split
        · exact .inl rfl
        · split
          · right; omega
          · exact mssF_rng o f _
theorem mssAt_rng (t : DT) : mssAt t = -1 ∨ (2 ≤ mssAt t ∧ mssAt t + 2 ≤ t.ol.length) := by
  unfold mssAt
  split
  · exact .inl rfl
  · exact mssF_rng _ _ _
end Go.Proofs.Ytaobnbjkhgcmlaa
