/-
  A datagram in a variable of a law's.
-/
import Derived.Test.YtfkcejfjmfliaaaRs4
import Derived.Test.YtfkcejfjmfliaaaLaw4A
namespace Go.Proofs.Ytfkcejfjmfliaaa
open Go.RowKit Go.Shelf

structure K4 (w' : World) (g : Nat) (D : D4) (p : W4) : Prop where
  has : Has w' g (.cells (D.cells p) 27 (0, 0))
  rd : Rd4 w'.heap.size w' D p
theorem K4.below {w w' : World} {g : Nat} {D : D4} {p : W4} (h : K4 w g D p) (hb : Below w.heap.size w w') : K4 w' g D p := ⟨h.has.below hb h.has.lt, (h.rd.below hb (Nat.le_refl _)).more hb.size⟩
theorem K4.new {w : World} {D : D4} {p : W4} (hr : Rd4 w.heap.size w D p) : K4 ((w.alloc (.cells #[.int .u8 0, .int .u16 0, .bool false, .bool false, .int .i64 0, .int .u8 0, .int .u8 0, .int .u8 0, .int .u8 0, .int .u8 0, .int .u8 0, .int .u8 0, .int .u8 0, .int .u8 0, .int .u8 0, .slice none 0 0, .slice none 0 0] 27)).setRow w.heap.size (D.cells p)) w.heap.size D p ∧ Below w.heap.size w ((w.alloc (.cells #[.int .u8 0, .int .u16 0, .bool false, .bool false, .int .i64 0, .int .u8 0, .int .u8 0, .int .u8 0, .int .u8 0, .int .u8 0, .int .u8 0, .int .u8 0, .int .u8 0, .int .u8 0, .int .u8 0, .slice none 0 0, .slice none 0 0] 27)).setRow w.heap.size (D.cells p)) := by
  have hb : Below w.heap.size w ((w.alloc (.cells #[.int .u8 0, .int .u16 0, .bool false, .bool false, .int .i64 0, .int .u8 0, .int .u8 0, .int .u8 0, .int .u8 0, .int .u8 0, .int .u8 0, .int .u8 0, .int .u8 0, .int .u8 0, .int .u8 0, .slice none 0 0, .slice none 0 0] 27)).setRow w.heap.size (D.cells p)) := ((Below.refl _ _).alloc (Nat.le_refl _) _).trans below_setRow'
  exact ⟨⟨(Has.newAt (o := .cells #[.int .u8 0, .int .u16 0, .bool false, .bool false, .int .i64 0, .int .u8 0, .int .u8 0, .int .u8 0, .int .u8 0, .int .u8 0, .int .u8 0, .int .u8 0, .int .u8 0, .int .u8 0, .int .u8 0, .slice none 0 0, .slice none 0 0] 27) rfl).setRow_same, (hr.below hb (Nat.le_refl _)).more hb.size⟩, hb⟩
theorem K4.arg {w : World} {D : D4} {p : W4} (hr : Rd4 w.heap.size w D p) : K4 (w.alloc (.cells (D.cells p) 27)) w.heap.size D p ∧ Below w.heap.size w (w.alloc (.cells (D.cells p) 27)) := by
  have hb : Below w.heap.size w (w.alloc (.cells (D.cells p) 27)) := (Below.refl _ _).alloc (Nat.le_refl _) _
  exact ⟨⟨Has.newAt rfl, (hr.below hb (Nat.le_refl _)).more hb.size⟩, hb⟩
theorem K4.same {w : World} {g g' : Nat} {D D' : D4} {p p' : W4} (h : K4 w g D p) (h' : K4 w g' D' p') : Calls Try.prog 21 #[.agg (D.cells p), .agg (D'.cells p')] w fun e w' => ∃ q : Bool, e = .returned (.bool q) ∧ Hid (q = same4 D D') ∧ Below w.heap.size w w' :=
  rsame4_any _ _ D D' p p' w h.rd.opt h'.rd.opt h.rd.body h'.rd.body (Nat.le_refl _) (Nat.le_refl _)
end Go.Proofs.Ytfkcejfjmfliaaa
