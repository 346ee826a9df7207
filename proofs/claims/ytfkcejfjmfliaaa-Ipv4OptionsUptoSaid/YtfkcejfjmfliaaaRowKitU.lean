/-
  What the bound of an upto statement gives: a slice of bytes is no longer than the bulk of its reading.
-/
import Derived.Test.YtfkcejfjmfliaaaRowKit
namespace Go.Proofs.Ytfkcejfjmfliaaa
open Go.ChangeShapes Go.WideShapes Go.ChangeAt Go.RowKit

section
variable {H : Type} {enc : TypeId × Value → H} {W : World} {base : Nat} {spare : Nat → Bool} {held : Bool}
theorem bulk_one {H : Type} (d : DataW H) : 1 ≤ Rows.uptoBulk d := by
  cases d with
  | lit l => cases l <;> simp [Rows.uptoBulk]
  | nil => simp [Rows.uptoBulk]
  | ptr d => simp [Rows.uptoBulk]
  | slice elems spare => simp [Rows.uptoBulk]
  | agg parts => simp [Rows.uptoBulk]
  | iface t d => simp [Rows.uptoBulk]
  | map entries => simp [Rows.uptoBulk]
  | held h => simp [Rows.uptoBulk]
theorem bulk_len {H : Type} (l : List (DataW H)) : l.length ≤ Rows.uptoBulkAll l := by
  induction l with
  | nil => simp [Rows.uptoBulkAll]
  | cons x r ih => have := bulk_one x; simp only [Rows.uptoBulkAll, List.length_cons]; omega
theorem slice_bulk' {P : Program} {t e : TypeId} {fuel : Nat} {cs : List Value} {x : DataW H × List MemPlace} (ht : P.underlying t = some (.slice e)) (h : DataW.trod enc P W base spare held fuel t cs = some x) {A : Option Addr} {n c : Nat} (hcs : cs = [.slice A n c]) : n ≤ Rows.uptoBulk x.1 := by
  rcases DataW.trod_slice ht h with ⟨h1, _⟩ | ⟨a, len, cap, elems, rest, m, _, h1, h2, _, _, _, hl, _⟩
  · rw [hcs] at h1
    injection h1 with h1
    injection h1 with _ h1 _
    omega
  · rw [hcs] at h1
    injection h1 with h1
    injection h1 with _ h1 _
    subst h2
    have h3 := bulk_len (elems.map (·.1))
    rw [List.length_map] at h3
    simp only [Rows.uptoBulk]
    omega
theorem slice_bulk {P : Program} {t e : TypeId} {A : Option Addr} {n c : Nat} {d : DataW H} {p : List MemPlace} (ht : P.underlying t = some (.slice e)) (h : DataW.Trod enc P W base spare held t (.slice A n c) d p) : n ≤ Rows.uptoBulk d := by
  obtain ⟨fuel, hf⟩ := h
  exact slice_bulk' ht hf rfl
end
end Go.Proofs.Ytfkcejfjmfliaaa
