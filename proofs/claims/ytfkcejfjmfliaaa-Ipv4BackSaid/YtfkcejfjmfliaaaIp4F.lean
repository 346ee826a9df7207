/-
  The walks of ipv4.Hop and of the reference's.
-/
import Derived.Test.YtfkcejfjmfliaaaIp4E
import Derived.Deep.RegionLaw
namespace Go.Proofs.Ytfkcejfjmfliaaa
open Go.RowKit Go.Shelf

def zero4 : D4 := ⟨0, 0, false, false, 0, 0, 0, 0, 0, 0, 0, 0, 0, 0, 0, [], []⟩
def pZ : W4 := ⟨none, 0, none, 0⟩
theorem zero4_rd (w : World) : Rd4 w.heap.size w zero4 pZ where
  ok := ⟨by decide, by decide, by decide, by decide, by decide, by intro x hx; simp [zero4, D4.src] at hx; omega, by intro x hx; simp [zero4, D4.dst] at hx; omega⟩
  opt := By.nil _ _ _ (by decide)
  body := By.nil _ _ _ (by decide)
/-- a datagram that is told, with an error's number -/
def Told4 (w' : World) (D : D4) (s : Int) (e : Ending) : Prop := ∃ p s', e = .returned (.tuple #[.agg (D.cells p), .int .i64 s']) ∧ Hid (s' = s) ∧ Rd4 w'.heap.size w' D p
/-- a datagram behind a hop -/
def hop4 (d : D4) : D4 := { d with ttl := d.ttl - 1 }
def D4.hop (d : D4) : D4 := if d.check ≠ 0 then zero4 else if d.ttl < 2 then zero4 else hop4 d
def D4.hopErr (d : D4) : Int := if d.check ≠ 0 then d.check else if d.ttl < 2 then 46 else 0

set_option maxRecDepth 100000 in
theorem hop_err (d : D4) (p : W4) (w : World) (b1 : d.ol.length ≤ 9223372036854775807) (b2 : d.bl.length ≤ 9223372036854775807) (h0 : d.check ≠ 0) :
    Calls Try.prog 18 #[.agg (d.cells p)] w fun e w' => Told4 w' zero4 d.check e ∧ Below w.heap.size w w' := by
  have hH : Has ((w.alloc (.cells (d.cells p) 27)).alloc (.cells (zero4.cells pZ) 27)) w.heap.size (.cells (d.cells p) 27 (0, 0)) := (Has.newAt rfl).alloc
  have hN : Has ((w.alloc (.cells (d.cells p) 27)).alloc (.cells (zero4.cells pZ) 27)) (w.heap.size + 1) (.cells (zero4.cells pZ) 27 (0, 0)) := Has.newAt (by simp)
  have hB : Below w.heap.size w ((w.alloc (.cells (d.cells p) 27)).alloc (.cells (zero4.cells pZ) 27)) := ((Below.refl _ _).alloc (Nat.le_refl _) _).alloc (by simp) _
  have hc := Lib.hid (check_any d p ((w.alloc (.cells (d.cells p) 27)).alloc (.cells (zero4.cells pZ) 27)) b1 b2)
  have hcs := Lib.hid (d.check_cases.resolve_left h0)
  clear h0
  go_enter Try.func18, Try.ntmps18
  go_wp2_with (refine wpList_load_row rfl 27 (.tmp 1) rfl w.heap.size rfl 27 (d.cells p) (0, 0) _ hH Try.underlying27 rfl v4_info ?_)
  refine hc.out.mono ?_
  rintro e w1 ⟨⟨q, rfl, hq⟩, hb1⟩
  have hN1 := hN.below hb1 hN.lt
  have hB1 := hB.trans (hb1.mono hB.size)
  have hfin : Rd4 (w1.setRow (w.heap.size + 1) (zero4.cells pZ)).heap.size (w1.setRow (w.heap.size + 1) (zero4.cells pZ)) zero4 pZ := zero4_rd _
  clear hc hb1 hB hN hH
  have hq2 : q = 45 ∨ q = 2 := by rw [hq.out]; exact hcs.out
  rcases hq2 with rfl | rfl
  · go_wp2_with (refine wpList_store_row rfl 27 (.tmp 2) (.tmp 9) rfl (w.heap.size + 1) _ rfl rfl 27 _ hN1 v4_info rfl (by simp [D4.cells, zero4, pZ, Value.oneCell']) ?_)
    exact bodyPost_ret (res_cell2 Try.results18 rfl (hN1.setRow_same.load (P := Try.prog) 27 Try.underlying27 rfl v4_info) rfl) rfl ⟨⟨pZ, 45, rfl, hq, hfin⟩, hB1.trans (below_setRow'.mono (by omega))⟩
  · go_wp2_with (refine wpList_store_row rfl 27 (.tmp 2) (.tmp 9) rfl (w.heap.size + 1) _ rfl rfl 27 _ hN1 v4_info rfl (by simp [D4.cells, zero4, pZ, Value.oneCell']) ?_)
    exact bodyPost_ret (res_cell2 Try.results18 rfl (hN1.setRow_same.load (P := Try.prog) 27 Try.underlying27 rfl v4_info) rfl) rfl ⟨⟨pZ, 2, rfl, hq, hfin⟩, hB1.trans (below_setRow'.mono (by omega))⟩

set_option maxRecDepth 100000 in
theorem hop_ttl (d : D4) (p : W4) (w : World) (b1 : d.ol.length ≤ 9223372036854775807) (b2 : d.bl.length ≤ 9223372036854775807) (h0 : d.check = 0) (ht : d.ttl < 2) :
    Calls Try.prog 18 #[.agg (d.cells p)] w fun e w' => Told4 w' zero4 46 e ∧ Below w.heap.size w w' := by
  have hH : Has ((w.alloc (.cells (d.cells p) 27)).alloc (.cells (zero4.cells pZ) 27)) w.heap.size (.cells (d.cells p) 27 (0, 0)) := (Has.newAt rfl).alloc
  have hN : Has ((w.alloc (.cells (d.cells p) 27)).alloc (.cells (zero4.cells pZ) 27)) (w.heap.size + 1) (.cells (zero4.cells pZ) 27 (0, 0)) := Has.newAt (by simp)
  have hB : Below w.heap.size w ((w.alloc (.cells (d.cells p) 27)).alloc (.cells (zero4.cells pZ) 27)) := ((Below.refl _ _).alloc (Nat.le_refl _) _).alloc (by simp) _
  have hc := Lib.hid (check_any d p ((w.alloc (.cells (d.cells p) 27)).alloc (.cells (zero4.cells pZ) 27)) b1 b2)
  have h0H := Lib.hid h0
  clear h0
  go_enter Try.func18, Try.ntmps18
  go_wp2_with (refine wpList_load_row rfl 27 (.tmp 1) rfl w.heap.size rfl 27 (d.cells p) (0, 0) _ hH Try.underlying27 rfl v4_info ?_)
  refine hc.out.mono ?_
  rintro e w1 ⟨⟨q, rfl, hq⟩, hb1⟩
  obtain rfl : q = 0 := hq.out.trans h0H.out
  have hH1 := hH.below hb1 hH.lt
  have hN1 := hN.below hb1 hN.lt
  have hB1 := hB.trans (hb1.mono hB.size)
  have c5 := hH1.cell 5 (v := .int .u8 d.ttl) rfl
  have hfin : Rd4 (w1.setRow (w.heap.size + 1) (zero4.cells pZ)).heap.size (w1.setRow (w.heap.size + 1) (zero4.cells pZ)) zero4 pZ := zero4_rd _
  clear hc hb1 hB hN hH hq
  go_wp2_with (refine wpList_store_row rfl 27 (.tmp 2) (.tmp 14) rfl (w.heap.size + 1) _ rfl rfl 27 _ hN1 v4_info rfl (by simp [D4.cells, zero4, pZ, Value.oneCell']) ?_)
  exact bodyPost_ret (res_cell2 Try.results18 rfl (hN1.setRow_same.load (P := Try.prog) 27 Try.underlying27 rfl v4_info) rfl) rfl ⟨⟨pZ, 46, rfl, Lib.hid rfl, hfin⟩, hB1.trans (below_setRow'.mono (by omega))⟩

set_option maxRecDepth 100000 in
theorem rhop_err (d : D4) (p : W4) (w : World) (b1 : d.ol.length ≤ 9223372036854775807) (b2 : d.bl.length ≤ 9223372036854775807) (h0 : d.check ≠ 0) :
    Calls Try.prog 19 #[.agg (d.cells p)] w fun e w' => Told4 w' zero4 d.check e ∧ Below w.heap.size w w' := by
  have hH : Has ((w.alloc (.cells (d.cells p) 27)).alloc (.cells (zero4.cells pZ) 27)) w.heap.size (.cells (d.cells p) 27 (0, 0)) := (Has.newAt rfl).alloc
  have hN : Has ((w.alloc (.cells (d.cells p) 27)).alloc (.cells (zero4.cells pZ) 27)) (w.heap.size + 1) (.cells (zero4.cells pZ) 27 (0, 0)) := Has.newAt (by simp)
  have hB : Below w.heap.size w ((w.alloc (.cells (d.cells p) 27)).alloc (.cells (zero4.cells pZ) 27)) := ((Below.refl _ _).alloc (Nat.le_refl _) _).alloc (by simp) _
  have hc := Lib.hid (rcheck_any d p ((w.alloc (.cells (d.cells p) 27)).alloc (.cells (zero4.cells pZ) 27)) b1 b2)
  have hcs := Lib.hid (d.check_cases.resolve_left h0)
  clear h0
  go_enter Try.func19, Try.ntmps19
  go_wp2_with (refine wpList_load_row rfl 27 (.tmp 1) rfl w.heap.size rfl 27 (d.cells p) (0, 0) _ hH Try.underlying27 rfl v4_info ?_)
  refine hc.out.mono ?_
  rintro e w1 ⟨⟨q, rfl, hq⟩, hb1⟩
  have hN1 := hN.below hb1 hN.lt
  have hB1 := hB.trans (hb1.mono hB.size)
  have hfin : Rd4 (w1.setRow (w.heap.size + 1) (zero4.cells pZ)).heap.size (w1.setRow (w.heap.size + 1) (zero4.cells pZ)) zero4 pZ := zero4_rd _
  clear hc hb1 hB hN hH
  have hq2 : q = 45 ∨ q = 2 := by rw [hq.out]; exact hcs.out
  rcases hq2 with rfl | rfl
  · go_wp2_with (refine wpList_store_row rfl 27 (.tmp 2) (.tmp 9) rfl (w.heap.size + 1) _ rfl rfl 27 _ hN1 v4_info rfl (by simp [D4.cells, zero4, pZ, Value.oneCell']) ?_)
    exact bodyPost_ret (res_cell2 Try.results19 rfl (hN1.setRow_same.load (P := Try.prog) 27 Try.underlying27 rfl v4_info) rfl) rfl ⟨⟨pZ, 45, rfl, hq, hfin⟩, hB1.trans (below_setRow'.mono (by omega))⟩
  · go_wp2_with (refine wpList_store_row rfl 27 (.tmp 2) (.tmp 9) rfl (w.heap.size + 1) _ rfl rfl 27 _ hN1 v4_info rfl (by simp [D4.cells, zero4, pZ, Value.oneCell']) ?_)
    exact bodyPost_ret (res_cell2 Try.results19 rfl (hN1.setRow_same.load (P := Try.prog) 27 Try.underlying27 rfl v4_info) rfl) rfl ⟨⟨pZ, 2, rfl, hq, hfin⟩, hB1.trans (below_setRow'.mono (by omega))⟩

set_option maxRecDepth 100000 in
theorem rhop_ttl (d : D4) (p : W4) (w : World) (b1 : d.ol.length ≤ 9223372036854775807) (b2 : d.bl.length ≤ 9223372036854775807) (h0 : d.check = 0) (ht : d.ttl < 2) :
    Calls Try.prog 19 #[.agg (d.cells p)] w fun e w' => Told4 w' zero4 46 e ∧ Below w.heap.size w w' := by
  have hH : Has ((w.alloc (.cells (d.cells p) 27)).alloc (.cells (zero4.cells pZ) 27)) w.heap.size (.cells (d.cells p) 27 (0, 0)) := (Has.newAt rfl).alloc
  have hN : Has ((w.alloc (.cells (d.cells p) 27)).alloc (.cells (zero4.cells pZ) 27)) (w.heap.size + 1) (.cells (zero4.cells pZ) 27 (0, 0)) := Has.newAt (by simp)
  have hB : Below w.heap.size w ((w.alloc (.cells (d.cells p) 27)).alloc (.cells (zero4.cells pZ) 27)) := ((Below.refl _ _).alloc (Nat.le_refl _) _).alloc (by simp) _
  have hc := Lib.hid (rcheck_any d p ((w.alloc (.cells (d.cells p) 27)).alloc (.cells (zero4.cells pZ) 27)) b1 b2)
  have h0H := Lib.hid h0
  clear h0
  go_enter Try.func19, Try.ntmps19
  go_wp2_with (refine wpList_load_row rfl 27 (.tmp 1) rfl w.heap.size rfl 27 (d.cells p) (0, 0) _ hH Try.underlying27 rfl v4_info ?_)
  refine hc.out.mono ?_
  rintro e w1 ⟨⟨q, rfl, hq⟩, hb1⟩
  obtain rfl : q = 0 := hq.out.trans h0H.out
  have hH1 := hH.below hb1 hH.lt
  have hN1 := hN.below hb1 hN.lt
  have hB1 := hB.trans (hb1.mono hB.size)
  have c5 := hH1.cell 5 (v := .int .u8 d.ttl) rfl
  have hfin : Rd4 (w1.setRow (w.heap.size + 1) (zero4.cells pZ)).heap.size (w1.setRow (w.heap.size + 1) (zero4.cells pZ)) zero4 pZ := zero4_rd _
  clear hc hb1 hB hN hH hq
  go_wp2_with (refine wpList_store_row rfl 27 (.tmp 2) (.tmp 14) rfl (w.heap.size + 1) _ rfl rfl 27 _ hN1 v4_info rfl (by simp [D4.cells, zero4, pZ, Value.oneCell']) ?_)
  exact bodyPost_ret (res_cell2 Try.results19 rfl (hN1.setRow_same.load (P := Try.prog) 27 Try.underlying27 rfl v4_info) rfl) rfl ⟨⟨pZ, 46, rfl, Lib.hid rfl, hfin⟩, hB1.trans (below_setRow'.mono (by omega))⟩

set_option maxRecDepth 100000 in
theorem rhop_ok (d : D4) (p : W4) (w : World) (hR : Rd4 w.heap.size w d p) (h0 : d.check = 0) (ht : ¬ d.ttl < 2) :
    Calls Try.prog 19 #[.agg (d.cells p)] w fun e w' => Told4 w' (hop4 d) 0 e ∧ Below w.heap.size w w' := by
  have b1 := Nat.le_trans hR.opt.cap hR.opt.big
  have b2 := Nat.le_trans hR.body.cap hR.body.big
  have rt := hR.ok.ttl
  have hH : Has ((w.alloc (.cells (d.cells p) 27)).alloc (.cells (zero4.cells pZ) 27)) w.heap.size (.cells (d.cells p) 27 (0, 0)) := (Has.newAt rfl).alloc
  have hN : Has ((w.alloc (.cells (d.cells p) 27)).alloc (.cells (zero4.cells pZ) 27)) (w.heap.size + 1) (.cells (zero4.cells pZ) 27 (0, 0)) := Has.newAt (by simp)
  have hB : Below w.heap.size w ((w.alloc (.cells (d.cells p) 27)).alloc (.cells (zero4.cells pZ) 27)) := ((Below.refl _ _).alloc (Nat.le_refl _) _).alloc (by simp) _
  have hc := Lib.hid (rcheck_any d p ((w.alloc (.cells (d.cells p) 27)).alloc (.cells (zero4.cells pZ) 27)) b1 b2)
  have h0H := Lib.hid h0
  clear h0 b1 b2
  go_enter Try.func19, Try.ntmps19
  go_wp2_with (refine wpList_load_row rfl 27 (.tmp 1) rfl w.heap.size rfl 27 (d.cells p) (0, 0) _ hH Try.underlying27 rfl v4_info ?_)
  refine hc.out.mono ?_
  rintro e w1 ⟨⟨q, rfl, hq⟩, hb1⟩
  obtain rfl : q = 0 := hq.out.trans h0H.out
  have hH1 := hH.below hb1 hH.lt
  have hN1 := hN.below hb1 hN.lt
  have hB1 := hB.trans (hb1.mono hB.size)
  have c5 := hH1.cell 5 (v := .int .u8 d.ttl) rfl
  have f5 := hH1.free 5
  have hH2 : Has (w1.setCell ⟨w.heap.size, 5, none⟩ (.int .u8 (d.ttl - 1))) w.heap.size (.cells ((hop4 d).cells p) 27 (0, 0)) := hH1.setCell 5 (.int .u8 (d.ttl - 1))
  have hN2 := hN1.setCell_other (Nat.succ_ne_self w.heap.size) 5 (.int .u8 (d.ttl - 1))
  have hB2 := below_setCell hB1 (Nat.le_refl _) 5 (.int .u8 (d.ttl - 1))
  have hB3 := hB2.trans ((below_setRow' (w := w1.setCell ⟨w.heap.size, 5, none⟩ (.int .u8 (d.ttl - 1))) (g := w.heap.size + 1) (cs := (hop4 d).cells p)).mono (by omega))
  clear hc hb1 hB hN hH hq hH1 hN1 hB1 hB2
  go_wp2_with (first | (refine wpList_load_row rfl 27 (.tmp 1) rfl w.heap.size rfl 27 ((hop4 d).cells p) (0, 0) _ hH2 Try.underlying27 rfl v4_info ?_) | (refine wpList_store_row rfl 27 (.tmp 2) (.tmp 19) rfl (w.heap.size + 1) _ rfl rfl 27 _ hN2 v4_info rfl (by simp [D4.cells, zero4, pZ, Value.oneCell']) ?_))
  refine bodyPost_ret (res_cell2 Try.results19 rfl (hN2.setRow_same.load (P := Try.prog) 27 Try.underlying27 rfl v4_info) rfl) rfl ⟨⟨p, 0, rfl, Lib.hid rfl, ⟨⟨hR.ok.tos, hR.ok.id, hR.ok.off, ⟨by show 0 ≤ d.ttl - 1; omega, by show d.ttl - 1 ≤ 255; omega⟩, hR.ok.proto, hR.ok.src, hR.ok.dst⟩, (hR.opt.below hB3 (Nat.le_refl _)).more hB3.size, (hR.body.below hB3 (Nat.le_refl _)).more hB3.size⟩⟩, hB3⟩
end Go.Proofs.Ytfkcejfjmfliaaa
