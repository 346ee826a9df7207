/-
  The walks of the reference's Of, Write.
-/
import Derived.Test.YtfkcejfjmfliaaaRef4A
import Derived.Test.YtfkcejfjmfliaaaRefSum
import Derived.Deep.RegionWith
namespace Go.Proofs.Ytfkcejfjmfliaaa
open Go.RowKit Go.Shelf

theorem rof_any (A : Option Addr) (c : Nat) (xs : List Sl) (w : World) (hI : Parts w.heap.size w A xs.length c xs) (htot : (flat xs).length ≤ 8796093022208) :
    Calls Try.prog 36 #[.slice A xs.length c] w fun e W' => e = .returned (.int .u16 (65535 - sumw (flat xs))) ∧ Below w.heap.size w W' := by
  have h := sumw_rng _ hI.rng
  go_enter Try.func36, Try.ntmps36
  go_wp2_with (go_at_call 45; refine (rfold_any _ _ _ _ hI htot).mono ?_; rintro e w' ⟨rfl, hb⟩)
  go_ret
  exact ⟨rfl, hb⟩
theorem rof_one {w : World} {g : Nat} (x : Sl) (h : Has w g (.cells #[.slice x.1 x.2.2.length x.2.1] 25 (0, 0))) (hy : By w.heap.size w x.1 x.2.2.length x.2.1 x.2.2) (hb : x.2.2.length ≤ 8796093022208) :
    Calls Try.prog 36 #[.slice (some ⟨g, 0, none⟩) 1 1] w fun e W' => ∃ q : Int, e = .returned (.int .u16 q) ∧ Hid (q = 65535 - sumw x.2.2) ∧ (0 ≤ q ∧ q < 65536) ∧ Below w.heap.size w W' := by
  have hP : Parts w.heap.size w (some ⟨g, 0, none⟩) 1 1 [x] := Parts.of1 x h.lt (h.cell 0 rfl) hy
  have hf : flat [x] = x.2.2 := by simp [flat]
  have hr := sumw_rng _ hP.rng
  rw [hf] at hr
  refine (rof_any _ _ [x] _ hP (by rw [hf]; exact hb)).mono fun e w' ⟨he, hb⟩ => ⟨_, he, Lib.hid (by rw [hf]), by rw [hf]; omega, hb⟩

set_option maxRecDepth 100000 in
set_option maxHeartbeats 1000000 in
theorem rwrite_ok (d : D4) (p : W4) (w : World) (hR : Rd4 w.heap.size w d p) (h0 : d.check = 0) :
    Calls Try.prog 12 #[.agg (d.cells p)] w fun e w' => ∃ v, e = .returned (.tuple #[v, .int .i64 0]) ∧ OwnB w' w.heap.size v d.bytes ∧ Below w.heap.size w w' := by
  obtain ⟨h1, h2, h3, h4⟩ := d.ok_of_check h0
  have hB : Below w.heap.size w (w.alloc (.cells (d.cells p) 27)) := (Below.refl _ _).alloc (Nat.le_refl _) _
  have hH : Has (w.alloc (.cells (d.cells p) 27)) w.heap.size (.cells (d.cells p) 27 (0, 0)) := Has.newAt rfl
  have hcH := Lib.hid (rcheck_any d p (w.alloc (.cells (d.cells p) 27)) (by omega) (by omega))
  have h2H := Lib.hid h2
  have h4H := Lib.hid h4
  have h0H := Lib.hid h0
  clear h0 h1 h2 h3 h4
  go_enter Try.func12, Try.ntmps12
  go_wp2_with (refine wpList_load_row rfl 27 (.tmp 1) rfl w.heap.size rfl 27 (d.cells p) (0, 0) _ (World.alloc_heap_new _ _) Try.underlying27 rfl v4_info ?_)
  refine hcH.out.mono ?_
  rintro e w1 ⟨⟨q, rfl, hq⟩, hb1⟩
  obtain rfl : q = 0 := hq.out.trans h0H.out
  have hH1 := hH.below hb1 hH.lt
  have hB1 := hB.trans (hb1.mono hB.size)
  clear hq hcH hH hB hb1
  have hR1 := (hR.below hB1 (Nat.le_refl _)).more (B' := w1.heap.size) hB1.size
  go_wp2_with (refine wpList_load_row rfl 27 (.tmp 1) rfl w.heap.size rfl 27 (d.cells p) (0, 0) _ hH1 Try.underlying27 rfl v4_info ?_)
  refine (head_ok d p _ hR1 h0H.out 0 (by decide)).mono ?_
  rintro e w2 ⟨v2, rfl, ho2, hb2⟩
  obtain ⟨L2, hL2⟩ : ∃ L2, d.first 0 ++ d.ol = L2 := ⟨_, rfl⟩
  have hn2 : L2.length ≤ 60 := by rw [← hL2, List.length_append]; have := h2H.out; have : (d.first 0).length = 20 := rfl; omega
  rw [hL2] at ho2
  obtain ⟨A2, k2, rfl, y2⟩ := ho2.by_
  have hL2H := Lib.hid hL2
  have hn2H := Lib.hid hn2
  have hH2 := hH1.below hb2 hH1.lt
  have hB2 := hB1.trans (hb2.mono hB1.size)
  clear hL2 hn2 ho2 hH1 hb2 hB1 hR1
  go_wp2_with (refine (rof_one (A2, k2, L2) (Has.newAt rfl) ((y2.alloc (Nat.le_refl _) _).more (by simp)) (by have := hn2H.out; show L2.length ≤ _; omega)).mono ?_; rintro e w3 ⟨q, rfl, hq, hq2, hb3⟩)
  have hb4 : Below w2.heap.size w2 w3 := ((Below.refl _ _).alloc (Nat.le_refl _) _).trans (hb3.mono (by simp))
  have hH3 := hH2.below hb4 hH2.lt
  have hB3 := hB2.trans (hb4.mono hB2.size)
  have hqs : q = d.sum := by rw [hq.out, D4.sum, hL2H.out]
  have hqsH := Lib.hid hqs
  have hR3 := (hR.below hB3 (Nat.le_refl _)).more (B' := w3.heap.size) hB3.size
  have c0 := hH3.cell 0 (v := .int .u8 d.tos) rfl
  have c1 := hH3.cell 1 (v := .int .u16 d.id) rfl
  have c2 := hH3.cell 2 (v := .bool d.df) rfl
  have c3 := hH3.cell 3 (v := .bool d.mf) rfl
  have c4 := hH3.cell 4 (v := .int .i64 d.off) rfl
  have c5 := hH3.cell 5 (v := .int .u8 d.ttl) rfl
  have c6 := hH3.cell 6 (v := .int .u8 d.proto) rfl
  have c7 := hH3.cell 7 (v := .int .u8 d.s0) rfl
  have c8 := hH3.cell 8 (v := .int .u8 d.s1) rfl
  have c9 := hH3.cell 9 (v := .int .u8 d.s2) rfl
  have c10 := hH3.cell 10 (v := .int .u8 d.s3) rfl
  have c11 := hH3.cell 11 (v := .int .u8 d.d0) rfl
  have c12 := hH3.cell 12 (v := .int .u8 d.d1) rfl
  have c13 := hH3.cell 13 (v := .int .u8 d.d2) rfl
  have c14 := hH3.cell 14 (v := .int .u8 d.d3) rfl
  have c15 := hH3.cell 15 (v := .slice p.oA d.ol.length p.oc) rfl
  have c16 := hH3.cell 16 (v := .slice p.bA d.bl.length p.bc) rfl
  have uq : IntKind.i64.wrap q = q := IntWalk.i64_in _ (by omega)
  have hR4 : Rd4 w3.drew.heap.size w3.drew d p := ⟨hR3.ok, hR3.opt.drew, hR3.body.drew⟩
  have hhH := Lib.hid (head_ok d p w3.drew hR4 h0H.out q hq2)
  have hsz := Lib.hid (show (d.first q ++ d.ol).length + d.bl.length ≤ 140737488355328 by
    have := h2H.out; have := h4H.out; have e : (d.first q).length = 20 := rfl; rw [List.length_append, e]; omega)
  clear hb3 hb4 hq hqs hH2 hB2 y2 hR3
  go_region_law (first
    | (go_simp; go_at_call 37; refine hhH.out.mono ?_; rintro e w4 ⟨v4, rfl, ho4, hb4⟩; have hH4 := hH3.drew.below hb4 hH3.lt; have b16 := hH4.cell 16 (v := .slice p.bA d.bl.length p.bc) rfl)
    | (refine step_appB _ rfl (.tmp 18) (.tmp 20) _ rfl Try.underlying25 info8 w3.drew.heap.size _ _ rfl ho4 _ p.bA d.bl.length p.bc d.bl rfl (hR4.body.below hb4 (Nat.le_refl _)) hsz.out hb4.size ?_; intro v5 w5 ho5 hg5 hat5))
  all_goals
    have hb5 := hb4.trans (below_app ho4 hg5 hb4.size)
    have hb6 : Below w.heap.size w _ := (hB3.trans (below_drew _ _)).trans (hb5.mono hB3.size)
    have ho6 := ho5.more (base' := w.heap.size) hB3.size
    rw [hqsH.out] at ho6
    clear c0 c1 c2 c3 c4 c5 c6 c7 c8 c9 c10 c11 c12 c13 c14 c15 c16 b16 hg5 hat5 ho5 ho4
    go_wp2
    go_ret2
    exact ⟨_, rfl, ho6, hb6⟩
end Go.Proofs.Ytfkcejfjmfliaaa
