/-
  The walks of sum.Of, sum.Good.
-/
import Derived.Test.YtfkcejfjmfliaaaSumB
import Derived.Test.YtfkcejfjmfliaaaPlainSum2
namespace Go.Proofs.Ytfkcejfjmfliaaa
open Go.RowKit Go.Shelf
attribute [local go_sem] Oper.semAt_some

theorem of_any (A : Option Addr) (c : Nat) (xs : List Sl) (w : World) (hI : Parts w.heap.size w A xs.length c xs) :
    Calls Try.prog 34 #[.slice A xs.length c] w fun e W' => e = .returned (.int .u16 (65535 - sumw (flat xs))) ∧ Below w.heap.size w W' := by
  go_enter Try.func34, Try.ntmps34
  go_wp2_with (go_at_call 43; refine (fold_any _ _ _ _ hI).mono ?_; rintro e w' ⟨rfl, hb⟩)
  go_ret
  have h := sumw_rng _ hI.rng
  exact ⟨ret_int (not_u16 _ h.1 h.2), hb⟩
theorem good_any (A : Option Addr) (c : Nat) (xs : List Sl) (w : World) (hI : Parts w.heap.size w A xs.length c xs) :
    Calls Try.prog 56 #[.slice A xs.length c] w fun e W' => e = .returned (.bool (decide (sumw (flat xs) = 65535))) ∧ Below w.heap.size w W' := by
  go_enter Try.func56, Try.ntmps56
  go_wp2_with (go_at_call 43; refine (fold_any _ _ _ _ hI).mono ?_; rintro e w' ⟨rfl, hb⟩)
  go_ret
  exact ⟨rfl, hb⟩

/-- sum.Of, its parts in a new row -/
theorem of_new {w : World} {g : Nat} (xs : List Sl) (n : Nat) (h : Has w g (.cells (xs.map fun x => Value.slice x.1 x.2.2.length x.2.1).toArray 25 (0, 0))) (hn : n = xs.length) (hy : ∀ x ∈ xs, By w.heap.size w x.1 x.2.2.length x.2.1 x.2.2) (hb : xs.length ≤ 9223372036854775807) :
    Calls Try.prog 34 #[.slice (some ⟨g, 0, none⟩) n n] w fun e W' => ∃ q : Int, e = .returned (.int .u16 q) ∧ Hid (q = 65535 - sumw (flat xs)) ∧ (0 ≤ q ∧ q < 65536) ∧ Below w.heap.size w W' := by
  subst hn
  have hP := Parts.blk h (Nat.le_refl _) rfl hy hb
  have hr := sumw_rng _ hP.rng
  exact (of_any _ _ xs _ hP).mono fun e w' ⟨he, hb⟩ => ⟨_, he, Lib.hid rfl, by omega, hb⟩
theorem good_new {w : World} {g : Nat} (xs : List Sl) (n : Nat) (h : Has w g (.cells (xs.map fun x => Value.slice x.1 x.2.2.length x.2.1).toArray 25 (0, 0))) (hn : n = xs.length) (hy : ∀ x ∈ xs, By w.heap.size w x.1 x.2.2.length x.2.1 x.2.2) (hb : xs.length ≤ 9223372036854775807) :
    Calls Try.prog 56 #[.slice (some ⟨g, 0, none⟩) n n] w fun e W' => ∃ q : Bool, e = .returned (.bool q) ∧ Hid (q = decide (sumw (flat xs) = 65535)) ∧ Below w.heap.size w W' := by
  subst hn
  exact (good_any _ _ xs _ (Parts.blk h (Nat.le_refl _) rfl hy hb)).mono fun e w' ⟨he, hb⟩ => ⟨_, he, Lib.hid rfl, hb⟩
end Go.Proofs.Ytfkcejfjmfliaaa
