/-
  ipv6.Write and the reference's, whole.
-/
import Derived.Test.YtndmmkadceobjaaV6I
import Derived.Test.YtndmmkadceobjaaV6J
namespace Go.Proofs.Ytndmmkadceobjaa
open Go.RowKit Go.Shelf

set_option maxRecDepth 100000 in
theorem write6_err (d : D6) (p : W6) (w : World) (hR : Rd6 w.heap.size w d p) (h0 : d.check ≠ 0) :
    Calls Try.prog 8 #[.agg (d.cells p)] w fun e w' => e = .returned (.tuple #[.slice none 0 0, .int .i64 d.check]) ∧ Below w.heap.size w w' := by
  have hB : Below w.heap.size w (w.alloc (.cells (d.cells p) 28)) := (Below.refl _ _).alloc (Nat.le_refl _) _
  have hH : Has (w.alloc (.cells (d.cells p) 28)) w.heap.size (.cells (d.cells p) 28 (0, 0)) := Has.newAt rfl
  have hcH := Lib.hid (size6_any d p (w.alloc (.cells (d.cells p) 28)) ((hR.below hB (Nat.le_refl _)).more hB.size))
  have hz : (d.cells p).size = 42 := rfl
  have hcsH := Lib.hid (d.check_cases.resolve_left h0)
  clear h0
  go_enter Try.func8, Try.ntmps8
  go_wp2_with (refine wpList_load_row rfl 28 (.tmp 1) rfl w.heap.size rfl 28 (d.cells p) (0, 0) _ hH Try.underlying28 rfl v6_info ?_)
  refine hcH.out.mono ?_
  rintro e w1 ⟨⟨q, r, s, rfl, hq⟩, hb1⟩
  clear hcH
  have hq2 : s = 54 ∨ s = 2 := by rw [hq.out.2.2]; exact hcsH.out
  rcases hq2 with rfl | rfl
  · go_wp2
    go_ret2
    exact ⟨by rw [← hq.out.2.2]; rfl, hB.trans (hb1.mono hB.size)⟩
  · go_wp2
    go_ret2
    exact ⟨by rw [← hq.out.2.2]; rfl, hB.trans (hb1.mono hB.size)⟩
set_option maxRecDepth 100000 in
theorem rwrite6_err (d : D6) (p : W6) (w : World) (hR : Rd6 w.heap.size w d p) (h0 : d.check ≠ 0) :
    Calls Try.prog 9 #[.agg (d.cells p)] w fun e w' => e = .returned (.tuple #[.slice none 0 0, .int .i64 d.check]) ∧ Below w.heap.size w w' := by
  have hB : Below w.heap.size w (w.alloc (.cells (d.cells p) 28)) := (Below.refl _ _).alloc (Nat.le_refl _) _
  have hH : Has (w.alloc (.cells (d.cells p) 28)) w.heap.size (.cells (d.cells p) 28 (0, 0)) := Has.newAt rfl
  have hcH := Lib.hid (rcheck6_any d p (w.alloc (.cells (d.cells p) 28)) ((hR.below hB (Nat.le_refl _)).more hB.size))
  have hz : (d.cells p).size = 42 := rfl
  have hcsH := Lib.hid (d.check_cases.resolve_left h0)
  clear h0
  go_enter Try.func9, Try.ntmps9
  go_wp2_with (refine wpList_load_row rfl 28 (.tmp 1) rfl w.heap.size rfl 28 (d.cells p) (0, 0) _ hH Try.underlying28 rfl v6_info ?_)
  refine hcH.out.mono ?_
  rintro e w1 ⟨⟨q, rfl, hq⟩, hb1⟩
  clear hcH
  have hq2 : q = 54 ∨ q = 2 := by rw [hq.out]; exact hcsH.out
  rcases hq2 with rfl | rfl
  · go_wp2
    go_ret2
    exact ⟨by rw [← hq.out]; rfl, hB.trans (hb1.mono hB.size)⟩
  · go_wp2
    go_ret2
    exact ⟨by rw [← hq.out]; rfl, hB.trans (hb1.mono hB.size)⟩
/-- bytes of the call's own, and an error's number -/
def Wrote (w w' : World) (l : List Int) (c : Int) (e : Ending) : Prop := ∃ v s, e = .returned (.tuple #[v, .int .i64 s]) ∧ Hid (s = c) ∧ OwnB w' w.heap.size v l ∧ Below w.heap.size w w'
theorem write6_any (d : D6) (p : W6) (w : World) (hR : Rd6 w.heap.size w d p) :
    Calls Try.prog 8 #[.agg (d.cells p)] w fun e w' => Wrote w w' d.write d.check e := by
  by_cases h0 : d.check = 0
  · refine (write6_ok d p w hR h0).mono ?_
    rintro e w' ⟨v, rfl, ho, hb⟩
    refine ⟨v, 0, rfl, Lib.hid h0.symm, ?_, hb⟩
    unfold D6.write
    rw [if_pos h0]
    exact ho
  · refine (write6_err d p w hR h0).mono ?_
    rintro e w' ⟨rfl, hb⟩
    refine ⟨_, _, rfl, Lib.hid rfl, ?_, hb⟩
    unfold D6.write
    rw [if_neg h0]
    exact OwnB.nil _ _
theorem rwrite6_any (d : D6) (p : W6) (w : World) (hR : Rd6 w.heap.size w d p) :
    Calls Try.prog 9 #[.agg (d.cells p)] w fun e w' => Wrote w w' d.write d.check e := by
  by_cases h0 : d.check = 0
  · refine (rwrite6_ok d p w hR h0).mono ?_
    rintro e w' ⟨v, rfl, ho, hb⟩
    refine ⟨v, 0, rfl, Lib.hid h0.symm, ?_, hb⟩
    unfold D6.write
    rw [if_pos h0]
    exact ho
  · refine (rwrite6_err d p w hR h0).mono ?_
    rintro e w' ⟨rfl, hb⟩
    refine ⟨_, _, rfl, Lib.hid rfl, ?_, hb⟩
    unfold D6.write
    rw [if_neg h0]
    exact OwnB.nil _ _
end Go.Proofs.Ytndmmkadceobjaa
