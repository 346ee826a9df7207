/-
  Packing options, step by step, in plain numbers.
-/
import Derived.Test.YtfkcejfjmfliaaaP4O
import Derived.Test.YtfkcejfjmfliaaaOptS
namespace Go.Proofs.Ytfkcejfjmfliaaa
open Go.RowKit

/-- the bytes of the first k -/
def pkT (ps : List Kd) (k : Nat) : List Int := pkAll (kdL (ps.take k))
theorem pkT_step {ps : List Kd} {k : Nat} {p : Kd} (h : ps[k]? = some p) : pkT ps (k + 1) = pkT ps k ++ (p.1 :: (2 + p.2.2.2.length : Int) :: p.2.2.2) := by
  rw [pkT, kdL_take h, pkAll_append, pkAll_one]; rfl
theorem pkT_all {ps : List Kd} {M : Nat} (h : ps.length = M) : pkT ps M = pkAll (kdL ps) := by rw [pkT, List.take_of_length_le (by omega)]
theorem pkBad_take {ps : List Kd} {k : Nat} {p : Kd} (h : ps[k]? = some p) (hk : (kdL (ps.take k)).any pkBadOne = false) : (kdL (ps.take (k + 1))).any pkBadOne = pkBadOne (p.1, p.2.2.2) := by
  rw [kdL_take h, List.any_append, hk]
  simp
theorem pkErr_bad {ps : List Kd} {k : Nat} {p : Kd} (h : ps[k]? = some p) (hb : pkBadOne (p.1, p.2.2.2) = true) : pkErr (kdL ps) = 47 := by
  unfold pkErr
  rw [if_pos]
  rw [List.any_eq_true]
  exact ⟨(p.1, p.2.2.2), List.mem_map.2 ⟨p, List.mem_of_getElem? h, rfl⟩, hb⟩
theorem pkErr_good {ps : List Kd} {M : Nat} (h : ps.length = M) (hk : (kdL (ps.take M)).any pkBadOne = false) : pkErr (kdL ps) = if 40 < (pkT ps M).length then 2 else 0 := by
  rw [List.take_of_length_le (by omega)] at hk
  rw [pkT_all h, pkErr, if_neg (by rw [hk]; simp)]
theorem pad_step (l : List Int) (j : Nat) : l ++ List.replicate j 0 ++ [0] = l ++ List.replicate (j + 1) (0 : Int) := by rw [List.append_assoc, ← List.replicate_succ']
theorem pad_done {l : List Int} {j : Nat} (hj : j ≤ (4 - l.length % 4) % 4) (h : (l.length + j) % 4 = 0) : l ++ List.replicate j 0 = pad4 l := by
  have : j = (4 - l.length % 4) % 4 := by omega
  rw [pad4, this]
theorem pkT_len_mono (ps : List Kd) (k : Nat) : (pkT ps k).length ≤ (pkAll (kdL ps)).length := by
  have h := congrArg (fun q => (pkAll (kdL q)).length) (List.take_append_drop k ps)
  simp only [kdL_append, pkAll_append, List.length_append] at h
  unfold pkT
  omega
end Go.Proofs.Ytfkcejfjmfliaaa
