/-
  The walk of ipv4.Hop, whole.
-/
import Derived.Test.YtfkcejfjmfliaaaIp4F
namespace Go.Proofs.Ytfkcejfjmfliaaa
open Go.RowKit Go.Shelf

theorem own_byN {w : World} {base n : Nat} {A : Option Addr} {c : Nat} {l : List Int} (h : OwnB w base (.slice A n c) l) : By w.heap.size w A n c l := by
  obtain ⟨A', c', e, y⟩ := h.by_
  injection e with e1 e2 e3
  subst e1 e2 e3
  exact y
set_option maxRecDepth 100000 in
set_option maxHeartbeats 4000000 in
theorem hop_ok (d : D4) (p : W4) (w : World) (hR : Rd4 w.heap.size w d p) (h0 : d.check = 0) (ht : ¬ d.ttl < 2) :
    Calls Try.prog 18 #[.agg (d.cells p)] w fun e w' => Told4 w' (hop4 d) 0 e ∧ Below w.heap.size w w' := by
  obtain ⟨_, l1, _, l2⟩ := d.ok_of_check h0
  have b1 := Nat.le_trans hR.opt.cap hR.opt.big
  have b2 := Nat.le_trans hR.body.cap hR.body.big
  have rt := hR.ok.ttl
  have hH : Has ((w.alloc (.cells (d.cells p) 27)).alloc (.cells (zero4.cells pZ) 27)) w.heap.size (.cells (d.cells p) 27 (0, 0)) := (Has.newAt rfl).alloc
  have hN : Has ((w.alloc (.cells (d.cells p) 27)).alloc (.cells (zero4.cells pZ) 27)) (w.heap.size + 1) (.cells (zero4.cells pZ) 27 (0, 0)) := Has.newAt (by simp)
  have hB : Below w.heap.size w ((w.alloc (.cells (d.cells p) 27)).alloc (.cells (zero4.cells pZ) 27)) := ((Below.refl _ _).alloc (Nat.le_refl _) _).alloc (by simp) _
  have hc := Lib.hid (check_any d p ((w.alloc (.cells (d.cells p) 27)).alloc (.cells (zero4.cells pZ) 27)) b1 b2)
  have h0H := Lib.hid h0
  have l1 := Lib.hid (show d.ol.length ≤ 140737488355328 by omega)
  have l2 := Lib.hid (show d.bl.length ≤ 140737488355328 by omega)
  clear h0 b1 b2
  go_enter Try.func18, Try.ntmps18
  go_wp2_with (refine wpList_load_row rfl 27 (.tmp 1) rfl w.heap.size rfl 27 (d.cells p) (0, 0) _ hH Try.underlying27 rfl v4_info ?_)
  refine hc.out.mono ?_
  rintro e w1 ⟨⟨q, rfl, hq⟩, hb1⟩
  obtain rfl : q = 0 := hq.out.trans h0H.out
  have hH1 := hH.below hb1 hH.lt
  have hN1 := hN.below hb1 hN.lt
  have hB1 := hB.trans (hb1.mono hB.size)
  have c5 := hH1.cell 5 (v := .int .u8 d.ttl) rfl
  have f5 := hH1.free 5
  have hH2 : Has (w1.setCell ⟨w.heap.size, 5, none⟩ (.int .u8 (d.ttl - 1))) w.heap.size (.cells ((hop4 d).cells p) 27 (0, 0)) := hH1.setCell 5 (.int .u8 (d.ttl - 1))
  have hN2 := hN1.setCell_other (Nat.succ_ne_self w.heap.size) 5 (.int .u8 (d.ttl - 1))
  have hB2 := below_setCell hB1 (Nat.le_refl _) 5 (.int .u8 (d.ttl - 1))
  have yO := (hR.opt.below (hB2.trans (below_drew _ _)) (Nat.le_refl _)).more (B' := (w1.setCell ⟨w.heap.size, 5, none⟩ (.int .u8 (d.ttl - 1))).drew.heap.size) hB2.size
  have yB := (hR.body.below (hB2.trans (below_drew _ _)) (Nat.le_refl _)).more (B' := (w1.setCell ⟨w.heap.size, 5, none⟩ (.int .u8 (d.ttl - 1))).drew.heap.size) hB2.size
  have hH2 := hH2.drew
  have hN2 := hN2.drew
  have hB2 := hB2.trans (below_drew _ _)
  have c15 := hH2.cell 15 (v := .slice p.oA d.ol.length p.oc) rfl
  have c16 := hH2.cell 16 (v := .slice p.bA d.bl.length p.bc) rfl
  have hcO := Lib.hid (clone_any p.oA p.oc d.ol _ yO l1.out)
  have hcB := Lib.hid (fun w' (h : Below (w1.setCell ⟨w.heap.size, 5, none⟩ (.int .u8 (d.ttl - 1))).drew.heap.size (w1.setCell ⟨w.heap.size, 5, none⟩ (.int .u8 (d.ttl - 1))).drew w') => clone_any p.bA p.bc d.bl w' ((yB.below h (Nat.le_refl _)).more h.size) l2.out)
  clear hc hb1 hB hN hH hq hH1 hN1 hB1
  go_wp2
  clear c5 f5 yO yB
  go_region_law (first
    | (go_simp; go_at_call 38; refine hcO.out.mono ?_; rintro e w3 ⟨v3, rfl, o3, hb3⟩; obtain ⟨A3, k3, rfl, _⟩ := own_shape o3.own; have hH3 := hH2.below hb3 hH2.lt; have hN3 := hN2.below hb3 hN2.lt; have d16 := hH3.cell 16 (v := .slice p.bA d.bl.length p.bc) rfl)
    | (go_simp; go_at_call 38; refine (hcB.out _ hb3).mono ?_; rintro e w4 ⟨v4, rfl, o4, hb4⟩; obtain ⟨A4, k4, rfl, _⟩ := own_shape o4.own; have hH4 := hH3.below hb4 hH3.lt; have hN4 := hN3.below hb4 hN3.lt; have e15 := hH4.cell 15 (v := .slice p.oA d.ol.length p.oc) rfl; have f15 := hH4.free 15; have hH5 := hH4.setCell 15 (.slice A3 d.ol.length k3); have e16 := hH5.cell 16 (v := .slice p.bA d.bl.length p.bc) rfl; have f16 := hH5.free 16))
  all_goals
    have hH6 : Has ((w4.setCell ⟨w.heap.size, 15, none⟩ (.slice A3 d.ol.length k3)).setCell ⟨w.heap.size, 16, none⟩ (.slice A4 d.bl.length k4)) w.heap.size (.cells ((hop4 d).cells ⟨A3, k3, A4, k4⟩) 27 (0, 0)) := hH5.setCell 16 (.slice A4 d.bl.length k4)
    have hN6 := (hN4.setCell_other (Nat.succ_ne_self w.heap.size) 15 (.slice A3 d.ol.length k3)).setCell_other (Nat.succ_ne_self w.heap.size) 16 (.slice A4 d.bl.length k4)
    have hB4 := hB2.trans ((hb3.trans (hb4.mono hb3.size)).mono hB2.size)
    have hB6 := below_setCell (below_setCell hB4 (Nat.le_refl _) 15 (.slice A3 d.ol.length k3)) (Nat.le_refl _) 16 (.slice A4 d.bl.length k4)
    have p3 := ((o3.below hb4).setCell hH2.lt 15 (.slice A3 d.ol.length k3)).setCell hH2.lt 16 (.slice A4 d.bl.length k4)
    have p4 := (o4.setCell hH3.lt 15 (.slice A3 d.ol.length k3)).setCell hH3.lt 16 (.slice A4 d.bl.length k4)
    have hlt := hN2.lt
    have hlt2 := hN3.lt
    clear c15 c16 d16 e15 e16 f15 f16 hH5 hH4 hH3 hN3 hN4 hN2 hB2 hB4 hH2 o3 o4 hb3 hb4 hcO hcB
    generalize (w4.setCell ⟨w.heap.size, 15, none⟩ (.slice A3 d.ol.length k3)).setCell ⟨w.heap.size, 16, none⟩ (.slice A4 d.bl.length k4) = w6 at *
    have hB7 := hB6.trans ((below_setRow' (w := w6) (g := w.heap.size + 1) (cs := (hop4 d).cells ⟨A3, k3, A4, k4⟩)).mono (by omega))
    have p3 := own_byN (p3.setRow (g := w.heap.size + 1) (cs := (hop4 d).cells ⟨A3, k3, A4, k4⟩) hlt)
    have p4 := own_byN (p4.setRow (g := w.heap.size + 1) (cs := (hop4 d).cells ⟨A3, k3, A4, k4⟩) hlt2)
    go_wp2_with (first | (refine wpList_load_row rfl 27 (.tmp 1) rfl w.heap.size rfl 27 ((hop4 d).cells ⟨A3, k3, A4, k4⟩) (0, 0) _ hH6 Try.underlying27 rfl v4_info ?_) | (refine wpList_store_row rfl 27 (.tmp 2) (.tmp 27) rfl (w.heap.size + 1) _ rfl rfl 27 _ hN6 v4_info rfl (by simp [D4.cells, zero4, pZ, Value.oneCell']) ?_))
    exact bodyPost_ret (res_cell2 Try.results18 rfl (hN6.setRow_same.load (P := Try.prog) 27 Try.underlying27 rfl v4_info) rfl) rfl ⟨⟨⟨A3, k3, A4, k4⟩, 0, rfl, Lib.hid rfl, ⟨⟨hR.ok.tos, hR.ok.id, hR.ok.off, ⟨by show 0 ≤ d.ttl - 1; omega, by show d.ttl - 1 ≤ 255; omega⟩, hR.ok.proto, hR.ok.src, hR.ok.dst⟩, p3, p4⟩⟩, hB7⟩
theorem hop_any (d : D4) (p : W4) (w : World) (hR : Rd4 w.heap.size w d p) :
    Calls Try.prog 18 #[.agg (d.cells p)] w fun e w' => Told4 w' d.hop d.hopErr e ∧ Below w.heap.size w w' := by
  have b1 := Nat.le_trans hR.opt.cap hR.opt.big
  have b2 := Nat.le_trans hR.body.cap hR.body.big
  unfold D4.hop D4.hopErr
  by_cases h0 : d.check = 0
  · have n0 : ¬ d.check ≠ 0 := fun h => h h0
    rw [if_neg n0, if_neg n0]
    by_cases ht : d.ttl < 2
    · rw [if_pos ht, if_pos ht]; exact hop_ttl d p w b1 b2 h0 ht
    · rw [if_neg ht, if_neg ht]; exact hop_ok d p w hR h0 ht
  · rw [if_pos h0, if_pos h0]; exact hop_err d p w b1 b2 h0
theorem rhop_any (d : D4) (p : W4) (w : World) (hR : Rd4 w.heap.size w d p) :
    Calls Try.prog 19 #[.agg (d.cells p)] w fun e w' => Told4 w' d.hop d.hopErr e ∧ Below w.heap.size w w' := by
  have b1 := Nat.le_trans hR.opt.cap hR.opt.big
  have b2 := Nat.le_trans hR.body.cap hR.body.big
  unfold D4.hop D4.hopErr
  by_cases h0 : d.check = 0
  · have n0 : ¬ d.check ≠ 0 := fun h => h h0
    rw [if_neg n0, if_neg n0]
    by_cases ht : d.ttl < 2
    · rw [if_pos ht, if_pos ht]; exact rhop_ttl d p w b1 b2 h0 ht
    · rw [if_neg ht, if_neg ht]; exact rhop_ok d p w hR h0 ht
  · rw [if_pos h0, if_pos h0]; exact rhop_err d p w b1 b2 h0
end Go.Proofs.Ytfkcejfjmfliaaa
