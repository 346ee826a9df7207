/-
  The walks of ipv4.Size and of the reference's.
-/
import Derived.Test.YtfkcejfjmfliaaaIp4A
namespace Go.Proofs.Ytfkcejfjmfliaaa
open Go.RowKit Go.Shelf

/-- three numbers that read as said -/
def Three (x y z : Int) (e : Ending) : Prop := ∃ q r s : Int, e = .returned (.tuple #[.int .i64 q, .int .i64 r, .int .i64 s]) ∧ Hid (q = x ∧ r = y ∧ s = z)
theorem Three.mk {x y z q r s : Int} (h1 : q = x) (h2 : r = y) (h3 : s = z) : Three x y z (.returned (.tuple #[.int .i64 q, .int .i64 r, .int .i64 s])) := ⟨q, r, s, rfl, Lib.hid ⟨h1, h2, h3⟩⟩
def D4.all (d : D4) : Int := if d.check = 0 then (d.hl : Int) + d.bl.length else 0
def D4.head (d : D4) : Int := if d.check = 0 then (d.hl : Int) else 0

theorem v4_size (d : D4) (p : W4) : (d.cells p).size = 17 := rfl
theorem v4_info : (Try.prog.info? 27).map (·.size) = some 17 := by kernel_rfl

set_option maxRecDepth 100000 in
theorem size_any (d : D4) (p : W4) (w : World) (ho : d.ol.length ≤ 9223372036854775807) (hb : d.bl.length ≤ 9223372036854775807) :
    Calls Try.prog 13 #[.agg (d.cells p)] w fun e w' => Three d.all d.head d.check e ∧ Below w.heap.size w w' := by
  have hB : Below w.heap.size w (w.alloc (.cells (d.cells p) 27)) := (Below.refl _ _).alloc (Nat.le_refl _) _
  have hH : Has (w.alloc (.cells (d.cells p) 27)) w.heap.size (.cells (d.cells p) 27 (0, 0)) := Has.newAt rfl
  have hcH := Lib.hid (check_any d p (w.alloc (.cells (d.cells p) 27)) ho hb)
  have hz : (d.cells p).size = 17 := rfl
  by_cases h0 : d.check = 0
  · obtain ⟨h1, h2, h3, h4⟩ := d.ok_of_check h0
    have e1 : d.all = (20 + d.ol.length : Int) + d.bl.length := by unfold D4.all D4.hl; rw [if_pos h0]; omega
    have e2 : d.head = 20 + d.ol.length := by unfold D4.head D4.hl; rw [if_pos h0]; omega
    have e1H := Lib.hid e1
    have e2H := Lib.hid e2
    have h0H := Lib.hid h0
    clear e1 e2 h0 h3
    go_enter Try.func13, Try.ntmps13
    go_wp2_with (refine wpList_load_row rfl 27 (.tmp 1) rfl w.heap.size rfl 27 (d.cells p) (0, 0) _ (World.alloc_heap_new _ _) Try.underlying27 rfl v4_info ?_)
    refine hcH.out.mono ?_
    rintro e w1 ⟨⟨q, rfl, hq⟩, hb1⟩
    obtain rfl : q = 0 := hq.out.trans h0H.out
    have hH1 := hH.below hb1 hH.lt
    have c15 := hH1.cell 15 (v := .slice p.oA d.ol.length p.oc) rfl
    have c16 := hH1.cell 16 (v := .slice p.bA d.bl.length p.bc) rfl
    clear hq hcH
    go_wp2
    go_ret3
    exact ⟨Three.mk e1H.out.symm e2H.out.symm h0H.out.symm, hB.trans (hb1.mono hB.size)⟩
  · have e1 : d.all = 0 := by unfold D4.all; rw [if_neg h0]
    have e2 : d.head = 0 := by unfold D4.head; rw [if_neg h0]
    have e1H := Lib.hid e1
    have e2H := Lib.hid e2
    have hcs := d.check_cases
    have hcsH := Lib.hid (hcs.resolve_left h0)
    clear e1 e2 h0 hcs
    go_enter Try.func13, Try.ntmps13
    go_wp2_with (refine wpList_load_row rfl 27 (.tmp 1) rfl w.heap.size rfl 27 (d.cells p) (0, 0) _ (World.alloc_heap_new _ _) Try.underlying27 rfl v4_info ?_)
    refine hcH.out.mono ?_
    rintro e w1 ⟨⟨q, rfl, hq⟩, hb1⟩
    clear hcH
    have hq2 : q = 45 ∨ q = 2 := by rw [hq.out]; exact hcsH.out
    rcases hq2 with rfl | rfl
    · go_wp2
      go_ret3
      exact ⟨Three.mk e1H.out.symm e2H.out.symm hq.out, hB.trans (hb1.mono hB.size)⟩
    · go_wp2
      go_ret3
      exact ⟨Three.mk e1H.out.symm e2H.out.symm hq.out, hB.trans (hb1.mono hB.size)⟩

set_option maxRecDepth 100000 in
theorem rsize_any (d : D4) (p : W4) (w : World) (ho : d.ol.length ≤ 9223372036854775807) (hb : d.bl.length ≤ 9223372036854775807) :
    Calls Try.prog 14 #[.agg (d.cells p)] w fun e w' => Three d.all d.head d.check e ∧ Below w.heap.size w w' := by
  have hB : Below w.heap.size w (w.alloc (.cells (d.cells p) 27)) := (Below.refl _ _).alloc (Nat.le_refl _) _
  have hH : Has (w.alloc (.cells (d.cells p) 27)) w.heap.size (.cells (d.cells p) 27 (0, 0)) := Has.newAt rfl
  have hcH := Lib.hid (rcheck_any d p (w.alloc (.cells (d.cells p) 27)) ho hb)
  have hz : (d.cells p).size = 17 := rfl
  by_cases h0 : d.check = 0
  · obtain ⟨h1, h2, h3, h4⟩ := d.ok_of_check h0
    have e1 : d.all = (20 + d.ol.length : Int) + d.bl.length := by unfold D4.all D4.hl; rw [if_pos h0]; omega
    have e2 : d.head = 20 + d.ol.length := by unfold D4.head D4.hl; rw [if_pos h0]; omega
    have e1H := Lib.hid e1
    have e2H := Lib.hid e2
    have h0H := Lib.hid h0
    clear e1 e2 h0 h3
    go_enter Try.func14, Try.ntmps14
    go_wp2_with (refine wpList_load_row rfl 27 (.tmp 1) rfl w.heap.size rfl 27 (d.cells p) (0, 0) _ (World.alloc_heap_new _ _) Try.underlying27 rfl v4_info ?_)
    refine hcH.out.mono ?_
    rintro e w1 ⟨⟨q, rfl, hq⟩, hb1⟩
    obtain rfl : q = 0 := hq.out.trans h0H.out
    have hH1 := hH.below hb1 hH.lt
    have c15 := hH1.cell 15 (v := .slice p.oA d.ol.length p.oc) rfl
    have c16 := hH1.cell 16 (v := .slice p.bA d.bl.length p.bc) rfl
    clear hq hcH
    have u1 : IntKind.i64.wrap (20 + (d.ol.length : Int)) = 20 + (d.ol.length : Int) := IntWalk.i64_in _ (by omega)
    have u2 : IntKind.i64.wrap (20 + (d.ol.length : Int) + (d.bl.length : Int)) = 20 + (d.ol.length : Int) + (d.bl.length : Int) := IntWalk.i64_in _ (by omega)
    go_wp2
    go_quiet (fail)
    go_wp2
    go_ret3
    exact ⟨Three.mk e1H.out.symm e2H.out.symm h0H.out.symm, (hB.trans (hb1.mono hB.size)).trans (below_drewN _ _ _)⟩
  · have e1 : d.all = 0 := by unfold D4.all; rw [if_neg h0]
    have e2 : d.head = 0 := by unfold D4.head; rw [if_neg h0]
    have e1H := Lib.hid e1
    have e2H := Lib.hid e2
    have hcs := d.check_cases
    have hcsH := Lib.hid (hcs.resolve_left h0)
    clear e1 e2 h0 hcs
    go_enter Try.func14, Try.ntmps14
    go_wp2_with (refine wpList_load_row rfl 27 (.tmp 1) rfl w.heap.size rfl 27 (d.cells p) (0, 0) _ (World.alloc_heap_new _ _) Try.underlying27 rfl v4_info ?_)
    refine hcH.out.mono ?_
    rintro e w1 ⟨⟨q, rfl, hq⟩, hb1⟩
    clear hcH
    have hq2 : q = 45 ∨ q = 2 := by rw [hq.out]; exact hcsH.out
    rcases hq2 with rfl | rfl
    · go_wp2
      go_ret3
      exact ⟨Three.mk e1H.out.symm e2H.out.symm hq.out, hB.trans (hb1.mono hB.size)⟩
    · go_wp2
      go_ret3
      exact ⟨Three.mk e1H.out.symm e2H.out.symm hq.out, hB.trans (hb1.mono hB.size)⟩

end Go.Proofs.Ytfkcejfjmfliaaa
