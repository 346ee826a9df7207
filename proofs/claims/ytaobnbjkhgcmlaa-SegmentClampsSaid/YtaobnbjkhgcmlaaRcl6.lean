/-
  The walk of the reference's Clamp.
-/
import Derived.Test.YtaobnbjkhgcmlaaCl6
namespace Go.Proofs.Ytaobnbjkhgcmlaa
open Go.RowKit Go.Shelf

set_option maxRecDepth 100000 in
set_option maxHeartbeats 4000000 in
theorem rclamp_any (t : DT) (p : WT) (most : Int) (w : World) (rt : RdT w.heap.size w t p) (hs1 : t.ol.length ≤ 140737488355328) (hm : -9223372036854775808 ≤ most ∧ most ≤ 9223372036854775807) :
    Calls Try.prog 35 #[.agg (t.cells p), .int .i64 most] w fun e w' => ∃ p', e = .returned (.tuple #[.agg ((clampD t most).cells p'), .bool (clampQ t most)]) ∧ RdT w'.heap.size w' (clampD t most) p' ∧ Below w.heap.size w w' := by
  have hT : Has ((w.alloc (.cells (t.cells p) 26)).alloc (.cells #[.int .u16 0, .int .u16 0, .int .u32 0, .int .u32 0, .int .u8 0, .int .u16 0, .int .u16 0, .slice none 0 0, .slice none 0 0] 26)) w.heap.size (.cells (t.cells p) 26 (0, 0)) := (Has.newAt rfl).alloc
  have hN : Has ((w.alloc (.cells (t.cells p) 26)).alloc (.cells #[.int .u16 0, .int .u16 0, .int .u32 0, .int .u32 0, .int .u8 0, .int .u16 0, .int .u16 0, .slice none 0 0, .slice none 0 0] 26)) (w.heap.size + 1) (.cells #[.int .u16 0, .int .u16 0, .int .u32 0, .int .u32 0, .int .u8 0, .int .u16 0, .int .u16 0, .slice none 0 0, .slice none 0 0] 26 (0, 0)) := Has.newAt (by simp)
  have hB : Below w.heap.size w ((w.alloc (.cells (t.cells p) 26)).alloc (.cells #[.int .u16 0, .int .u16 0, .int .u32 0, .int .u32 0, .int .u8 0, .int .u16 0, .int .u16 0, .slice none 0 0, .slice none 0 0] 26)) := ((Below.refl _ _).alloc (Nat.le_refl _) _).alloc (by simp) _
  go_enter Try.func35, Try.ntmps35
  go_wp2_with (refine wpList_load_row rfl 26 (.tmp 2) rfl w.heap.size rfl 26 (t.cells p) (0, 0) _ hT Try.underlying26 rfl tcp_info ?_)
  refine (rmss_any t p _ ((rt.below hB (Nat.le_refl _)).more hB.size) hs1).mono ?_
  rintro e w1 ⟨⟨n, q, rfl, hnq⟩, hb⟩
  have hT := hT.below hb hT.lt
  have hN := hN.below hb hN.lt
  have hB := hB.trans (hb.mono hB.size)
  have hnq1 := hnq.out.1
  have hnq2 := hnq.out.2
  clear hb hnq
  by_cases hc : q = true ∧ most < n
  case neg =>
    have hd : clampD t most = t ∧ clampQ t most = false := by rw [clampD, clampQ, ← hnq1, ← hnq2]; simp [hc]
    have hdH := Lib.hid hd
    clear hd hnq1 hnq2
    have hBf : Below w.heap.size w (w1.setRow (w.heap.size + 1) (t.cells p)) := hB.trans (below_setRow'.mono (Nat.le_succ _))
    have hfin : RdT (w1.setRow (w.heap.size + 1) (t.cells p)).heap.size (w1.setRow (w.heap.size + 1) (t.cells p)) t p := (rt.below hBf (Nat.le_refl _)).more hBf.size
    have hcase : q = false ∨ (q = true ∧ n ≤ most) := by cases q <;> simp at hc ⊢; omega
    rcases hcase with rfl | ⟨rfl, hle⟩
    all_goals
      clear hc
      go_wp2_with (first
        | (refine wpList_load_row rfl 26 (.tmp 2) rfl w.heap.size rfl 26 (t.cells p) (0, 0) _ hT Try.underlying26 rfl tcp_info ?_)
        | (refine wpList_store_row rfl 26 (.tmp 4) (.tmp 22) rfl (w.heap.size + 1) _ rfl rfl 26 _ hN tcp_info rfl (by simp [DT.cells, Value.oneCell']) ?_))
      exact bodyPost_ret (res_cell2 Try.results35 rfl (hN.setRow_same.load (P := Try.prog) 26 Try.underlying26 rfl tcp_info) rfl) rfl ⟨p, by rw [hdH.out.1, hdH.out.2]; rfl, by rw [hdH.out.1]; exact hfin, hBf⟩
  case pos =>
    obtain ⟨rfl, hgt⟩ := hc
    have hat := mssAt_rng t
    have hpos : 0 ≤ mssAt t := by have := hnq2.symm; simpa [mssOk] using this
    obtain ⟨k, hk⟩ : ∃ k : Nat, mssAt t = (k : Int) := ⟨(mssAt t).toNat, by omega⟩
    have hk1 : k + 1 < t.ol.length := by omega
    have hn16 : n < 65536 := by rw [hnq1, mssVal, hk, if_neg (by omega)]; exact (be2_rng rt.opt.rng _).2
    obtain ⟨m, hmm⟩ : ∃ m, max most 0 = m := ⟨_, rfl⟩
    have hmr : 0 ≤ m ∧ m < 65536 := by omega
    have hd : clampD t most = { t with ol := set2 t.ol k m } ∧ clampQ t most = true := by rw [clampD, clampQ, ← hnq1, ← hnq2, hk, hmm]; simp [hgt]
    have hdH := Lib.hid hd
    have hkH := Lib.hid hk
    have hngt : ¬ (n ≤ most) := by omega
    clear hd hnq1 hnq2 hat hpos hk
    go_wp2_with (refine wpList_load_row rfl 26 (.tmp 2) rfl w.heap.size rfl 26 (t.cells p) (0, 0) _ hT Try.underlying26 rfl tcp_info ?_)
    refine (rplace_any t p _ ((rt.below hB (Nat.le_refl _)).more hB.size) hs1).mono ?_
    rintro e w2 ⟨⟨q, rfl, hq⟩, hb⟩
    obtain rfl : q = (k : Int) := by rw [hq.out, hkH.out]
    have hT := hT.below hb hT.lt
    have hN := hN.below hb hN.lt
    have hB := hB.trans (hb.mono hB.size)
    have hlt := hN.lt
    clear hb hq hgt hngt hn16
    dsimp only
    have hcont := ‹∀ (a : Act) (w : World), wpList _ _ _ _ a w → _›
    refine hcont _ _ ?_
    refine wl (.int .i64 (k : Int)) (by kernel_rfl) (by exact rfl) ?_
    simp only [Act.put, List.setIfInBounds_toArray, List.set_cons_zero, List.set_cons_succ]
    refine wpList_nil ?_
    have hcont2 := ‹∀ (a : Act) (w : World), Code.wp _ _ _ a w → _›
    refine hcont2 _ _ ?_
    clear hcont hcont2
    refine wp_seq (wp_region_lit ?_)
    refine pl_build0 rfl rfl Try.underlying24 (by kernel_rfl) ?_
    intro g6 w6 oz hb6
    simp only [Act.put, List.setIfInBounds_toArray, List.set_cons_zero, List.set_cons_succ]
    have hT6 := hT.below hb6 hT.lt
    have hN6 := hN.below hb6 hN.lt
    have hB6 := hB.trans (hb6.mono hB.size)
    refine wl (.pointer (some ⟨w.heap.size, 7, none⟩)) (by kernel_rfl) (by exact ex_field 7 0 (by exact rfl) Try.underlying26 (by exact rfl) rfl (by kernel_rfl) (by exact rfl)) ?_
    simp only [Act.put, List.setIfInBounds_toArray, List.set_cons_zero, List.set_cons_succ]
    refine wl (.slice p.oA t.ol.length p.oc) (by kernel_rfl) (by exact ex_cell (by exact rfl) Try.underlying24 rfl (by exact rfl) (hT6.cell 7 rfl)) ?_
    simp only [Act.put, List.setIfInBounds_toArray, List.set_cons_zero, List.set_cons_succ]
    refine pl_app (.tmp 25) (.tmp 27) _ rfl rfl Try.underlying24 info8 w2.heap.size _ [] rfl oz _ p.oA t.ol.length p.oc t.ol rfl (rt.opt.below hB6 (Nat.le_refl _)) (by simp; omega) hb6.size ?_
    intro v3 w3 ho3 hb3
    have ho3 : OwnB w3 w2.heap.size v3 t.ol := ho3
    obtain ⟨A9, k9, rfl, _⟩ := own_shape ho3.own
    obtain ⟨g, rfl, hg, hglt, c1, f1, u1⟩ := ho3.byte rfl (show k < t.ol.length by omega)
    simp only [Act.put, List.setIfInBounds_toArray, List.set_cons_zero, List.set_cons_succ]
    have hb3 := hb6.trans hb3
    have hT3 := hT.below hb3 hT.lt
    have hN3 := hN.below hb3 hN.lt
    have hB3 := hB.trans (hb3.mono hB.size)
    clear hT6 hN6 hB6 oz hb6 hT hN hB
    refine wl ((.slice (some ⟨g, 0, none⟩) t.ol.length k9)) (by kernel_rfl) (by exact rfl) ?_
    simp only [Act.put, List.setIfInBounds_toArray, List.set_cons_zero, List.set_cons_succ]
    refine wpList_nil ?_
    change Code.wp _ _ _ _ _
    refine wp_seq (wp_region_lit ?_)
    refine wl ((.slice (some ⟨g, 0, none⟩) t.ol.length k9)) (by kernel_rfl) (by exact rfl) ?_
    simp only [Act.put, List.setIfInBounds_toArray, List.set_cons_zero, List.set_cons_succ]
    refine wl (.int .i64 (k : Int)) (by kernel_rfl) (by exact rfl) ?_
    simp only [Act.put, List.setIfInBounds_toArray, List.set_cons_zero, List.set_cons_succ]
    refine wl ((.slice (some ⟨g, 0, none⟩) t.ol.length k9)) (by kernel_rfl) (by exact rfl) ?_
    simp only [Act.put, List.setIfInBounds_toArray, List.set_cons_zero, List.set_cons_succ]
    refine wl (.int .i64 (k : Int)) (by kernel_rfl) (by exact rfl) ?_
    simp only [Act.put, List.setIfInBounds_toArray, List.set_cons_zero, List.set_cons_succ]
    refine wl (.int .i64 ((k + 1 : Nat) : Int)) (by kernel_rfl) (by exact ex_bin (by exact rfl) (by exact rfl) (by exact rfl) (by decide) (add1_i64 _ k (by omega) _)) ?_
    simp only [Act.put, List.setIfInBounds_toArray, List.set_cons_zero, List.set_cons_succ]
    refine wl (.int .i64 most) (by kernel_rfl) (by exact rfl) ?_
    simp only [Act.put, List.setIfInBounds_toArray, List.set_cons_zero, List.set_cons_succ]
    refine wl (.int .i64 m) (by kernel_rfl) (by exact ex_max (by exact rfl) (by exact rfl) (by exact rfl) (by rw [← hmm]; split <;> omega)) ?_
    simp only [Act.put, List.setIfInBounds_toArray, List.set_cons_zero, List.set_cons_succ]
    refine wl (.int .i64 (m / 256)) (by kernel_rfl) (by exact ex_bin (by exact rfl) (by exact rfl) (by exact rfl) (by decide) (shr8_i64 _ m _)) ?_
    simp only [Act.put, List.setIfInBounds_toArray, List.set_cons_zero, List.set_cons_succ]
    refine wl (.int .u8 (m / 256)) (by kernel_rfl) (by exact ex_conv (by exact rfl) (by exact rfl) (conv_u8' _ _ .i64 (m / 256) (by rw [Try.underlying3]; rfl) Try.underlying5 (by omega) _)) ?_
    simp only [Act.put, List.setIfInBounds_toArray, List.set_cons_zero, List.set_cons_succ]
    refine wl (.int .i64 most) (by kernel_rfl) (by exact rfl) ?_
    simp only [Act.put, List.setIfInBounds_toArray, List.set_cons_zero, List.set_cons_succ]
    refine wl (.int .i64 m) (by kernel_rfl) (by exact ex_max (by exact rfl) (by exact rfl) (by exact rfl) (by rw [← hmm]; split <;> omega)) ?_
    simp only [Act.put, List.setIfInBounds_toArray, List.set_cons_zero, List.set_cons_succ]
    refine wl (.int .u8 (m % 256)) (by kernel_rfl) (by exact ex_conv (by exact rfl) (by exact rfl) (conv_u8 _ _ .i64 m (by rw [Try.underlying3]; rfl) Try.underlying5 _)) ?_
    simp only [Act.put, List.setIfInBounds_toArray, List.set_cons_zero, List.set_cons_succ]
    refine wl (.pointer (some ⟨g, k, none⟩)) (by kernel_rfl) (by exact ex_index0 (by exact rfl) Try.underlying24 (by kernel_rfl) (by exact rfl) (by exact rfl) (by omega)) ?_
    simp only [Act.put, List.setIfInBounds_toArray, List.set_cons_zero, List.set_cons_succ]
    refine pl_store1 (v := .int .u8 (m / 256)) rfl rfl rfl rfl rfl (by kernel_rfl) c1 f1 rfl ?_
    simp only [Act.put, List.setIfInBounds_toArray, List.set_cons_zero, List.set_cons_succ]
    have o1 := u1 (m / 256) (by omega)
    have hT4 : Has (w3.setCell ⟨g, k, none⟩ (.int .u8 (m / 256))) w.heap.size (.cells (t.cells p) 26 (0, 0)) := hT3.setCell_other (by omega) k _
    have hN4 : Has (w3.setCell ⟨g, k, none⟩ (.int .u8 (m / 256))) (w.heap.size + 1) (.cells #[.int .u16 0, .int .u16 0, .int .u32 0, .int .u32 0, .int .u8 0, .int .u16 0, .int .u16 0, .slice none 0 0, .slice none 0 0] 26 (0, 0)) := hN3.setCell_other (by omega) k _
    have hB4 : Below w.heap.size w (w3.setCell ⟨g, k, none⟩ (.int .u8 (m / 256))) := below_setCell hB3 (by omega) k _
    generalize w3.setCell ⟨g, k, none⟩ (.int .u8 (m / 256)) = w4 at o1 hT4 hN4 hB4 ⊢
    obtain ⟨g', e', _, _, c2, f2, u2⟩ := o1.byte (by simp) hk1
    injection e' with e'
    injection e' with e1 _ _
    subst e1
    refine wl (.pointer (some ⟨g, k + 1, none⟩)) (by kernel_rfl) (by exact ex_index0 (by exact rfl) Try.underlying24 (by kernel_rfl) (by exact rfl) (by exact rfl) (by omega)) ?_
    simp only [Act.put, List.setIfInBounds_toArray, List.set_cons_zero, List.set_cons_succ]
    refine pl_store1 (v := .int .u8 (m % 256)) rfl rfl rfl rfl rfl (by kernel_rfl) c2 f2 rfl ?_
    simp only [Act.put, List.setIfInBounds_toArray, List.set_cons_zero, List.set_cons_succ]
    have o2 := u2 (m % 256) (by omega)
    have hT5 : Has (w4.setCell ⟨g, k + 1, none⟩ (.int .u8 (m % 256))) w.heap.size (.cells (t.cells p) 26 (0, 0)) := hT4.setCell_other (by omega) (k + 1) _
    have hN5 : Has (w4.setCell ⟨g, k + 1, none⟩ (.int .u8 (m % 256))) (w.heap.size + 1) (.cells #[.int .u16 0, .int .u16 0, .int .u32 0, .int .u32 0, .int .u8 0, .int .u16 0, .int .u16 0, .slice none 0 0, .slice none 0 0] 26 (0, 0)) := hN4.setCell_other (by omega) (k + 1) _
    have hB5 : Below w.heap.size w (w4.setCell ⟨g, k + 1, none⟩ (.int .u8 (m % 256))) := below_setCell hB4 (by omega) (k + 1) _
    have hsz5 : w.heap.size + 1 < w2.heap.size := hlt
    generalize w4.setCell ⟨g, k + 1, none⟩ (.int .u8 (m % 256)) = w5 at o2 hT5 hN5 hB5 ⊢
    refine wpList_nil ?_
    change Code.wp _ _ _ _ _
    refine wp_seq (wp_region_lit ?_)
    refine wl ((.slice (some ⟨g, 0, none⟩) t.ol.length k9)) (by kernel_rfl) (by exact rfl) ?_
    simp only [Act.put, List.setIfInBounds_toArray, List.set_cons_zero, List.set_cons_succ]
    refine wl (.pointer (some ⟨w.heap.size, 7, none⟩)) (by kernel_rfl) (by exact ex_field 7 0 (by exact rfl) Try.underlying26 (by exact rfl) rfl (by kernel_rfl) (by exact rfl)) ?_
    simp only [Act.put, List.setIfInBounds_toArray, List.set_cons_zero, List.set_cons_succ]
    refine pl_store1 (v := (.slice (some ⟨g, 0, none⟩) t.ol.length k9)) rfl rfl rfl rfl rfl (by kernel_rfl) (hT5.cell 7 (v := .slice p.oA t.ol.length p.oc) rfl) (hT5.free 7) rfl ?_
    simp only [Act.put, List.setIfInBounds_toArray, List.set_cons_zero, List.set_cons_succ]
    have hT6 : Has (w5.setCell ⟨w.heap.size, 7, none⟩ (.slice (some ⟨g, 0, none⟩) t.ol.length k9)) w.heap.size (.cells (t.cells ⟨some ⟨g, 0, none⟩, k9, p.bA, p.bc⟩) 26 (0, 0)) := hT5.setCell 7 (.slice (some ⟨g, 0, none⟩) t.ol.length k9)
    have hN6 : Has (w5.setCell ⟨w.heap.size, 7, none⟩ (.slice (some ⟨g, 0, none⟩) t.ol.length k9)) (w.heap.size + 1) (.cells #[.int .u16 0, .int .u16 0, .int .u32 0, .int .u32 0, .int .u8 0, .int .u16 0, .int .u16 0, .slice none 0 0, .slice none 0 0] 26 (0, 0)) := hN5.setCell_other (by omega) 7 (.slice (some ⟨g, 0, none⟩) t.ol.length k9)
    have hB6 : Below w.heap.size w (w5.setCell ⟨w.heap.size, 7, none⟩ (.slice (some ⟨g, 0, none⟩) t.ol.length k9)) := below_setCell hB5 (Nat.le_refl _) 7 (.slice (some ⟨g, 0, none⟩) t.ol.length k9)
    have o6 : OwnB (w5.setCell ⟨w.heap.size, 7, none⟩ (.slice (some ⟨g, 0, none⟩) t.ol.length k9)) w2.heap.size (.slice (some ⟨g, 0, none⟩) t.ol.length k9) (set2 t.ol k m) := o2.setCell (by omega) 7 (.slice (some ⟨g, 0, none⟩) t.ol.length k9)
    generalize w5.setCell ⟨w.heap.size, 7, none⟩ (.slice (some ⟨g, 0, none⟩) t.ol.length k9) = w6 at hT6 hN6 hB6 o6 ⊢
    refine wpList_nil ?_
    change Code.wp _ _ _ _ _
    refine wp_seq (wp_region_lit ?_)
    refine wpList_load_row rfl 26 (.tmp 2) rfl w.heap.size rfl 26 (t.cells ⟨some ⟨g, 0, none⟩, k9, p.bA, p.bc⟩) (0, 0) _ hT6 Try.underlying26 rfl tcp_info ?_
    simp only [Act.put, List.setIfInBounds_toArray, List.set_cons_zero, List.set_cons_succ]
    refine wpList_store_row rfl 26 (.tmp 4) (.tmp 45) rfl (w.heap.size + 1) _ rfl rfl 26 _ hN6 tcp_info rfl (by simp [DT.cells, Value.oneCell']) ?_
    simp only [Act.put, List.setIfInBounds_toArray, List.set_cons_zero, List.set_cons_succ]
    refine wl (.bool true) (by kernel_rfl) (by exact rfl) ?_
    simp only [Act.put, List.setIfInBounds_toArray, List.set_cons_zero, List.set_cons_succ]
    refine wpList_nil ?_
    change Code.wp _ Code.ret _ _ _
    refine wp_ret ?_
    have hz : { t with ol := set2 t.ol k m }.cells ⟨some ⟨g, 0, none⟩, k9, p.bA, p.bc⟩ = t.cells ⟨some ⟨g, 0, none⟩, k9, p.bA, p.bc⟩ := by simp only [DT.cells, set2_len]
    have hBf : Below w.heap.size w (w6.setRow (w.heap.size + 1) (t.cells ⟨some ⟨g, 0, none⟩, k9, p.bA, p.bc⟩)) := hB6.trans (below_setRow'.mono (Nat.le_succ _))
    have q1 := o6.setRow (g := w.heap.size + 1) (cs := t.cells ⟨some ⟨g, 0, none⟩, k9, p.bA, p.bc⟩) hsz5
    exact bodyPost_ret (res_cell2 Try.results35 rfl (hN6.setRow_same.load (P := Try.prog) 26 Try.underlying26 rfl tcp_info) rfl) rfl ⟨⟨some ⟨g, 0, none⟩, k9, p.bA, p.bc⟩, by rw [hdH.out.1, hdH.out.2, hz]; rfl, by rw [hdH.out.1]; exact ⟨⟨rt.ok.src, rt.ok.dst, rt.ok.seq, rt.ok.ack, rt.ok.flags, rt.ok.window, rt.ok.urgent⟩, own_byN' q1 (by simp [set2_len]), (rt.body.below hBf (Nat.le_refl _)).more hBf.size⟩, hBf⟩
end Go.Proofs.Ytaobnbjkhgcmlaa
