/-
  Words for memory, a third part: a byte of an own row read and changed.
-/
import Derived.Test.YtndmmkadceobjaaMem2
namespace Go.Proofs.Ytndmmkadceobjaa
open Go.RowKit

theorem OwnB.setCell' {w : World} {base g : Nat} {v : Value} {l : List Int} (h : OwnB w base v l) (hg : v.ownBlock ≠ some g) (k : Nat) (u : Value) : OwnB (w.setCell ⟨g, k, none⟩ u) base v l := by
  refine ⟨⟨h.own.1, ?_⟩, h.rng⟩
  rcases h.own.2 with h0 | ⟨g', cap, cur, h0, hb, hh, rest⟩
  · exact .inl h0
  · refine .inr ⟨g', cap, cur, h0, hb, Has.setCell_other hh (fun e => hg ?_) k u, rest⟩
    rw [h0, ← e]
    rfl
/-- a byte of an own row, and the row with another one in its place -/
theorem OwnB.byte {w : World} {base n c : Nat} {A : Option Addr} {l : List Int} (h : OwnB w base (.slice A n c) l) (hn : n = l.length) {i : Nat} (hi : i < n) :
    ∃ g, A = some ⟨g, 0, none⟩ ∧ base ≤ g ∧ g < w.heap.size ∧ w.cell? ⟨g, i, none⟩ = some (.int .u8 (l.getD i 0)) ∧ w.frozen? ⟨g, i, none⟩ = false ∧
      ∀ y, 0 ≤ y ∧ y ≤ 255 → OwnB (w.setCell ⟨g, i, none⟩ (.int .u8 y)) base (.slice A n c) (l.set i y) := by
  subst hn
  rcases h.own.2 with ⟨h0, h1⟩ | ⟨g, cap, cur, h0, hb, hh, hnc, hmx, hsz, htk⟩
  · injection h0 with e1 e2 e3
    omega
  · injection h0 with e1 e2 e3
    subst e1 e3
    rw [Nat.mul_one] at hsz htk
    have hcur : cur[i]? = some (.int .u8 (l.getD i 0)) := by
      have h1 : (cur.toList.take l.length)[i]? = (u8s l)[i]? := by rw [htk]
      rw [List.getElem?_take, if_pos hi] at h1
      rw [← Array.getElem?_toList, h1]
      simp [u8s, List.getD, List.getElem?_eq_getElem hi]
    have hH : Has w g (.cells cur 5 (0, 0)) := hh
    refine ⟨g, rfl, hb, hH.lt, hH.cell i hcur, hH.free i, fun y hy => ⟨⟨?_, .inr ⟨g, c, cur.setIfInBounds i (.int .u8 y), ?_, hb, hH.setCell i (.int .u8 y), ?_, hmx, ?_, ?_⟩⟩, ?_⟩⟩
    · rw [u8s_length, Nat.mul_one]
    · rw [List.length_set]
    · rw [List.length_set]; exact hnc
    · rw [Nat.mul_one]; simpa using hsz
    · rw [List.length_set, Nat.mul_one, Array.toList_setIfInBounds, List.take_set, htk]
      simp [u8s, List.map_set]
    · intro x hx
      rcases List.mem_or_eq_of_mem_set hx with h1 | h1
      · exact h.rng x h1
      · rw [h1]; exact hy
end Go.Proofs.Ytndmmkadceobjaa
