/-
  Words for memory, a second part: whole rows stored, copied; the world named behind each.
-/
import Derived.Test.YtndmmkadceobjaaMem
import Derived.Laws.Tables
import Derived.Laws.CopyOwn
namespace Go.Proofs.Ytndmmkadceobjaa
open Go.RowKit

theorem Has.setRow_same {w : World} {g : Nat} {cs cs' : Array Value} {t : TypeId} {fz : Nat × Nat} (h : Has w g (.cells cs t fz)) : Has (w.setRow g cs') g (.cells cs' t fz) := Go.setRow_heap w g cs cs' t fz h
theorem Has.setRow_other {w : World} {g k : Nat} {cs' : Array Value} {o : Obj} (h : Has w k o) (hk : k ≠ g) : Has (w.setRow g cs') k o := (Go.setRow_other w g k cs' hk).trans h

theorem Has.setCell {w : World} {g : Nat} {cs : Array Value} {t : TypeId} {fz : Nat × Nat} (h : Has w g (.cells cs t fz)) (k : Nat) (v : Value) : Has (w.setCell ⟨g, k, none⟩ v) g (.cells (cs.setIfInBounds k v) t fz) := by
  have hlt := h.lt
  have hv : w.heap[g] = .cells cs t fz := (Array.getElem?_eq_some_iff.1 h).2
  unfold Has World.setCell
  rw [Array.getElem?_eq_getElem (by simpa using hlt), Array.getElem_modify]
  simp [hv]
theorem Has.setCell_other {w : World} {g j : Nat} {o : Obj} (h : Has w j o) (hj : j ≠ g) (k : Nat) (v : Value) : Has (w.setCell ⟨g, k, none⟩ v) j o := by
  unfold Has World.setCell
  simpa [Array.getElem?_modify, Ne.symm hj] using show w.heap[j]? = some o from h
theorem below_setCell {B g : Nat} {w0 w : World} (hb : Below B w0 w) (hg : B ≤ g) (k : Nat) (v : Value) : Below B w0 (w.setCell ⟨g, k, none⟩ v) :=
  hb.trans ⟨rfl, rfl, rfl, by simp [World.setCell], fun j hj => by simp [World.setCell, Array.getElem?_modify]; intro h; omega⟩
theorem OwnB.setCell {w : World} {base g : Nat} {v : Value} {l : List Int} (h : OwnB w base v l) (hg : g < base) (k : Nat) (u : Value) : OwnB (w.setCell ⟨g, k, none⟩ u) base v l := by
  refine ⟨⟨h.own.1, ?_⟩, h.rng⟩
  rcases h.own.2 with h0 | ⟨g', cap, cur, h0, hb, hh, rest⟩
  · exact .inl h0
  · exact .inr ⟨g', cap, cur, h0, hb, Has.setCell_other hh (by omega) k u, rest⟩
theorem below_drew (B : Nat) (w : World) : Below B w w.drew := ⟨rfl, rfl, rfl, Nat.le_refl _, fun _ _ => rfl⟩

/-- a whole row into a block of the call's own -/
theorem wpList_store_has {P : Program} {ops : Array Oper} {rest : List Oper} {o : Oper} {a : Act} {w : World} {Q : Exit → Act → World → Prop} (hgd : o.guard = none) (ty : TypeId) (x y : Operand) (ho : o.op = .store ty x y)
    (g : Nat) (cells : Array Value) (hx : a.eval x = .pointer (some ⟨g, 0, none⟩)) (hy : a.eval y = .agg cells)
    (t : TypeId) (old : Array Value) (hg : Has w g (.cells old t (0, 0))) (hi : (P.info? ty).map (·.size) = some cells.size)
    (hold : old.size = cells.size) (h1 : cells.all (·.oneCell') = true)
    (h : ∀ w', Has w' g (.cells cells t (0, 0)) → Below g w w' → wpList P ops Q rest (a.put o.dst undef) w') : wpList P ops Q (o :: rest) a w :=
  wpList_store_row hgd ty x y ho g cells hx hy t old hg hi hold h1 (h _ hg.setRow_same (below_setRow (Below.refl _ _) (Nat.le_refl _) _))
end Go.Proofs.Ytndmmkadceobjaa
