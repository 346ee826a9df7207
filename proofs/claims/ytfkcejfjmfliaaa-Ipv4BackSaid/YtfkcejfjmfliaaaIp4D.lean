/-
  ipv4.Write, whole.
-/
import Derived.Test.YtfkcejfjmfliaaaIp4C
namespace Go.Proofs.Ytfkcejfjmfliaaa
open Go.RowKit Go.Shelf

theorem write_err (d : D4) (p : W4) (w : World) (hl : d.ol.length ≤ 9223372036854775807) (hl2 : d.bl.length ≤ 9223372036854775807) (h0 : d.check ≠ 0) :
    Calls Try.prog 11 #[.agg (d.cells p)] w fun e w' => e = .returned (.tuple #[.slice none 0 0, .int .i64 d.check]) ∧ Below w.heap.size w w' := by
  have hB : Below w.heap.size w (w.alloc (.cells (d.cells p) 27)) := (Below.refl _ _).alloc (Nat.le_refl _) _
  have hcH := Lib.hid (size_any d p (w.alloc (.cells (d.cells p) 27)) hl hl2)
  have hcsH := Lib.hid (d.check_cases.resolve_left h0)
  clear h0
  go_enter Try.func11, Try.ntmps11
  go_wp2_with (refine wpList_load_row rfl 27 (.tmp 1) rfl w.heap.size rfl 27 (d.cells p) (0, 0) _ (World.alloc_heap_new _ _) Try.underlying27 rfl v4_info ?_)
  refine hcH.out.mono ?_
  rintro e w1 ⟨⟨q, r, s, rfl, hq⟩, hb1⟩
  clear hcH
  have hq2 : s = 45 ∨ s = 2 := by rw [hq.out.2.2]; exact hcsH.out
  rcases hq2 with rfl | rfl
  · go_wp2
    go_ret2
    exact ⟨by rw [← hq.out.2.2]; rfl, hB.trans (hb1.mono hB.size)⟩
  · go_wp2
    go_ret2
    exact ⟨by rw [← hq.out.2.2]; rfl, hB.trans (hb1.mono hB.size)⟩

/-- what Write answers -/
theorem write_any (d : D4) (p : W4) (w : World) (hR : Rd4 w.heap.size w d p) :
    Calls Try.prog 11 #[.agg (d.cells p)] w fun e w' => ∃ v s, e = .returned (.tuple #[v, .int .i64 s]) ∧ Hid (s = d.check) ∧ OwnB w' w.heap.size v d.write ∧ Below w.heap.size w w' := by
  have b1 := Nat.le_trans hR.opt.cap hR.opt.big
  have b2 := Nat.le_trans hR.body.cap hR.body.big
  by_cases h0 : d.check = 0
  · refine (write_ok d p w hR h0).mono ?_
    rintro e w' ⟨v, rfl, ho, hb⟩
    refine ⟨v, 0, rfl, Lib.hid h0.symm, ?_, hb⟩
    unfold D4.write
    rw [if_pos h0]
    exact ho
  · refine (write_err d p w b1 b2 h0).mono ?_
    rintro e w' ⟨rfl, hb⟩
    refine ⟨_, _, rfl, Lib.hid rfl, ?_, hb⟩
    unfold D4.write
    rw [if_neg h0]
    exact OwnB.nil _ _
end Go.Proofs.Ytfkcejfjmfliaaa
