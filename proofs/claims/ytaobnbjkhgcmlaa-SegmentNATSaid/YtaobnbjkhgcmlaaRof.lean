/-
  The walk of the reference's Of.
-/
import Derived.Test.YtaobnbjkhgcmlaaRefSum
namespace Go.Proofs.Ytaobnbjkhgcmlaa
open Go.RowKit Go.Shelf

theorem rof_any (A : Option Addr) (c : Nat) (xs : List Sl) (w : World) (hI : Parts w.heap.size w A xs.length c xs) (htot : (flat xs).length ≤ 8796093022208) :
    Calls Try.prog 52 #[.slice A xs.length c] w fun e W' => e = .returned (.int .u16 (65535 - sumw (flat xs))) ∧ Below w.heap.size w W' := by
  have h := sumw_rng _ hI.rng
  go_enter Try.func52, Try.ntmps52
  go_wp2_with (go_at_call 19; refine (rfold_any _ _ _ _ hI htot).mono ?_; rintro e w' ⟨rfl, hb⟩)
  go_ret
  exact ⟨rfl, hb⟩
end Go.Proofs.Ytaobnbjkhgcmlaa
