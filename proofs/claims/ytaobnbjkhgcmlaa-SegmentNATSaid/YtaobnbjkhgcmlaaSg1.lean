/-
  The walks of segment.SameUDP, SameTCP and of the reference's.
-/
import Derived.Test.YtaobnbjkhgcmlaaP6
import Derived.Test.YtaobnbjkhgcmlaaClone
import Derived.Test.YtaobnbjkhgcmlaaReg3
namespace Go.Proofs.Ytaobnbjkhgcmlaa
open Go.RowKit Go.Shelf

set_option maxRecDepth 100000 in
theorem sameU_any (B1 B2 : Nat) (d d' : DU) (A A' : Option Addr) (c c' : Nat) (w : World) (yb : By B1 w A d.bl.length c d.bl) (zb : By B2 w A' d'.bl.length c' d'.bl)
    (hB1 : B1 ≤ w.heap.size) (hB2 : B2 ≤ w.heap.size) :
    Calls Try.prog 15 #[.agg (d.cells A c), .agg (d'.cells A' c')] w fun e w' => ∃ q : Bool, e = .returned (.bool q) ∧ Hid (q = sameU d d') ∧ Below w.heap.size w w' := by
  have hB : Below w.heap.size w ((w.alloc (.cells (d.cells A c) 28)).alloc (.cells (d'.cells A' c') 28)) := ((Below.refl _ _).alloc (Nat.le_refl _) _).alloc (by simp) _
  have hL : Has ((w.alloc (.cells (d.cells A c) 28)).alloc (.cells (d'.cells A' c') 28)) w.heap.size (.cells (d.cells A c) 28 (0, 0)) := (Has.newAt rfl).alloc
  have hR : Has ((w.alloc (.cells (d.cells A c) 28)).alloc (.cells (d'.cells A' c') 28)) (w.alloc (.cells (d.cells A c) 28)).heap.size (.cells (d'.cells A' c') 28 (0, 0)) := Has.newAt rfl
  have yb := yb.below hB hB1
  have zb := zb.below hB hB2
  go_enter Try.func15, Try.ntmps15
  -- CHAIN ferryman/segment.SameUDP sameU.json
  refine wp_seq (wp_region_lit ?_)
  refine wl_box 28 _ _ rfl rfl rfl ?_
  simp only [Act.put, List.setIfInBounds_toArray, List.set_cons_zero, List.set_cons_succ]
  refine wl_box 28 _ _ rfl rfl rfl ?_
  simp only [Act.put, List.setIfInBounds_toArray, List.set_cons_zero, List.set_cons_succ]
  refine wl (.bool false) (by kernel_rfl) (by exact rfl) ?_
  simp only [Act.put, List.setIfInBounds_toArray, List.set_cons_zero, List.set_cons_succ]
  refine wpList_nil ?_
  change Code.wp _ _ _ _ _
  generalize (w.alloc (.cells (d.cells A c) 28)).heap.size = g2 at hR ⊢
  generalize (w.alloc (.cells (d.cells A c) 28)).alloc (.cells (d'.cells A' c') 28) = W at hL hR hB yb zb ⊢
  refine wp_seq (wp_region_lit ?_)
  refine wl (.pointer (some ⟨w.heap.size, 0, none⟩)) (by kernel_rfl) (by exact ex_field 0 0 (by exact rfl) Try.underlying28 (by exact rfl) rfl (by kernel_rfl) (by exact rfl)) ?_
  simp only [Act.put, List.setIfInBounds_toArray, List.set_cons_zero, List.set_cons_succ]
  refine wl (.int .u16 d.src) (by kernel_rfl) (by exact ex_cell (by exact rfl) Try.underlying22 rfl (by exact rfl) (hL.cell 0 rfl)) ?_
  simp only [Act.put, List.setIfInBounds_toArray, List.set_cons_zero, List.set_cons_succ]
  refine wl (.pointer (some ⟨g2, 0, none⟩)) (by kernel_rfl) (by exact ex_field 0 0 (by exact rfl) Try.underlying28 (by exact rfl) rfl (by kernel_rfl) (by exact rfl)) ?_
  simp only [Act.put, List.setIfInBounds_toArray, List.set_cons_zero, List.set_cons_succ]
  refine wl (.int .u16 d'.src) (by kernel_rfl) (by exact ex_cell (by exact rfl) Try.underlying22 rfl (by exact rfl) (hR.cell 0 rfl)) ?_
  simp only [Act.put, List.setIfInBounds_toArray, List.set_cons_zero, List.set_cons_succ]
  by_cases hsrc : d.src = d'.src
  · refine wl (.bool true) (by kernel_rfl) (by exact eq_int_eq (by exact rfl) (by exact rfl) (by exact rfl) hsrc) ?_
    simp only [Act.put, List.setIfInBounds_toArray, List.set_cons_zero, List.set_cons_succ]
    refine wl (.bool true) (by kernel_rfl) (by exact rfl) ?_
    simp only [Act.put, List.setIfInBounds_toArray, List.set_cons_zero, List.set_cons_succ]
    refine wl (.pointer (some ⟨w.heap.size, 1, none⟩)) (by kernel_rfl) (by exact ex_field 1 0 (by exact rfl) Try.underlying28 (by exact rfl) rfl (by kernel_rfl) (by exact rfl)) ?_
    simp only [Act.put, List.setIfInBounds_toArray, List.set_cons_zero, List.set_cons_succ]
    refine wl (.int .u16 d.dst) (by kernel_rfl) (by exact ex_cell (by exact rfl) Try.underlying22 rfl (by exact rfl) (hL.cell 1 rfl)) ?_
    simp only [Act.put, List.setIfInBounds_toArray, List.set_cons_zero, List.set_cons_succ]
    refine wl (.pointer (some ⟨g2, 1, none⟩)) (by kernel_rfl) (by exact ex_field 1 0 (by exact rfl) Try.underlying28 (by exact rfl) rfl (by kernel_rfl) (by exact rfl)) ?_
    simp only [Act.put, List.setIfInBounds_toArray, List.set_cons_zero, List.set_cons_succ]
    refine wl (.int .u16 d'.dst) (by kernel_rfl) (by exact ex_cell (by exact rfl) Try.underlying22 rfl (by exact rfl) (hR.cell 1 rfl)) ?_
    simp only [Act.put, List.setIfInBounds_toArray, List.set_cons_zero, List.set_cons_succ]
    by_cases hdst : d.dst = d'.dst
    · refine wl (.bool true) (by kernel_rfl) (by exact eq_int_eq (by exact rfl) (by exact rfl) (by exact rfl) hdst) ?_
      simp only [Act.put, List.setIfInBounds_toArray, List.set_cons_zero, List.set_cons_succ]
      refine wl (.bool true) (by kernel_rfl) (by exact rfl) ?_
      simp only [Act.put, List.setIfInBounds_toArray, List.set_cons_zero, List.set_cons_succ]
      refine wl (.bool true) (by kernel_rfl) (by exact rfl) ?_
      simp only [Act.put, List.setIfInBounds_toArray, List.set_cons_zero, List.set_cons_succ]
      refine wl (.pointer (some ⟨w.heap.size, 2, none⟩)) (by kernel_rfl) (by exact ex_field 2 0 (by exact rfl) Try.underlying28 (by exact rfl) rfl (by kernel_rfl) (by exact rfl)) ?_
      simp only [Act.put, List.setIfInBounds_toArray, List.set_cons_zero, List.set_cons_succ]
      refine wl (.slice A d.bl.length c) (by kernel_rfl) (by exact ex_cell (by exact rfl) Try.underlying24 rfl (by exact rfl) (hL.cell 2 rfl)) ?_
      simp only [Act.put, List.setIfInBounds_toArray, List.set_cons_zero, List.set_cons_succ]
      refine wl (.pointer (some ⟨g2, 2, none⟩)) (by kernel_rfl) (by exact ex_field 2 0 (by exact rfl) Try.underlying28 (by exact rfl) rfl (by kernel_rfl) (by exact rfl)) ?_
      simp only [Act.put, List.setIfInBounds_toArray, List.set_cons_zero, List.set_cons_succ]
      refine wl (.slice A' d'.bl.length c') (by kernel_rfl) (by exact ex_cell (by exact rfl) Try.underlying24 rfl (by exact rfl) (hR.cell 2 rfl)) ?_
      simp only [Act.put, List.setIfInBounds_toArray, List.set_cons_zero, List.set_cons_succ]
      by_cases hb : d.bl = d'.bl
      · refine wl_call (.bool true) (by kernel_rfl) (by exact ex_call (by exact rfl) Try.func41 (by kernel_rfl) (by kernel_rfl) (by simp only [List.map_toArray, List.map_cons, List.map_nil] <;> rfl)) ((equal_any _ _ A A' c c' d.bl d'.bl _ yb zb).mono fun e w' g => ⟨by rw [g.1, decide_eq_true hb], g.2⟩) ?_
        simp only [Act.put, List.setIfInBounds_toArray, List.set_cons_zero, List.set_cons_succ]
        refine wl (.bool true) (by kernel_rfl) (by exact rfl) ?_
        simp only [Act.put, List.setIfInBounds_toArray, List.set_cons_zero, List.set_cons_succ]
        refine wl (.bool true) (by kernel_rfl) (by exact rfl) ?_
        simp only [Act.put, List.setIfInBounds_toArray, List.set_cons_zero, List.set_cons_succ]
        refine wpList_nil ?_
        change Code.wp _ Code.ret _ _ _
        refine wp_ret ?_
        exact bodyPost_ret (res_tmp Try.results15 rfl) rfl ⟨_, rfl, Lib.hid (by simp [sameU, hsrc, hdst, hb]), hB⟩
      · refine wl_call (.bool false) (by kernel_rfl) (by exact ex_call (by exact rfl) Try.func41 (by kernel_rfl) (by kernel_rfl) (by simp only [List.map_toArray, List.map_cons, List.map_nil] <;> rfl)) ((equal_any _ _ A A' c c' d.bl d'.bl _ yb zb).mono fun e w' g => ⟨by rw [g.1, decide_eq_false hb], g.2⟩) ?_
        simp only [Act.put, List.setIfInBounds_toArray, List.set_cons_zero, List.set_cons_succ]
        refine skip_ok (t' := #[.agg (d.cells A c), .agg (d'.cells A' c'), .pointer (some ⟨w.heap.size, 0, none⟩), .pointer (some ⟨g2, 0, none⟩), .bool false, .pointer (some ⟨w.heap.size, 0, none⟩), .int .u16 d.src, .pointer (some ⟨g2, 0, none⟩), .int .u16 d'.src, .bool true, .bool true, .pointer (some ⟨w.heap.size, 1, none⟩), .int .u16 d.dst, .pointer (some ⟨g2, 1, none⟩), .int .u16 d'.dst, .bool true, .bool true, .bool true, .pointer (some ⟨w.heap.size, 2, none⟩), .slice A d.bl.length c, .pointer (some ⟨g2, 2, none⟩), .slice A' d'.bl.length c', .bool false, .bool false]) _ _ (by kernel_rfl) ?_
        change Code.wp _ Code.ret _ _ _
        refine wp_ret ?_
        exact bodyPost_ret (res_tmp Try.results15 rfl) rfl ⟨_, rfl, Lib.hid (by simp [sameU, hsrc, hdst, hb]), hB⟩
    · refine wl (.bool false) (by kernel_rfl) (by exact eq_int_ne (by exact rfl) (by exact rfl) (by exact rfl) hdst) ?_
      simp only [Act.put, List.setIfInBounds_toArray, List.set_cons_zero, List.set_cons_succ]
      refine skip_ok (t' := #[.agg (d.cells A c), .agg (d'.cells A' c'), .pointer (some ⟨w.heap.size, 0, none⟩), .pointer (some ⟨g2, 0, none⟩), .bool false, .pointer (some ⟨w.heap.size, 0, none⟩), .int .u16 d.src, .pointer (some ⟨g2, 0, none⟩), .int .u16 d'.src, .bool true, .bool true, .pointer (some ⟨w.heap.size, 1, none⟩), .int .u16 d.dst, .pointer (some ⟨g2, 1, none⟩), .int .u16 d'.dst, .bool false, .bool false, .bool false, undef, undef, undef, undef, undef, .bool false]) _ _ (by kernel_rfl) ?_
      change Code.wp _ Code.ret _ _ _
      refine wp_ret ?_
      exact bodyPost_ret (res_tmp Try.results15 rfl) rfl ⟨_, rfl, Lib.hid (by simp [sameU, hsrc, hdst]), hB⟩
  · refine wl (.bool false) (by kernel_rfl) (by exact eq_int_ne (by exact rfl) (by exact rfl) (by exact rfl) hsrc) ?_
    simp only [Act.put, List.setIfInBounds_toArray, List.set_cons_zero, List.set_cons_succ]
    refine skip_ok (t' := #[.agg (d.cells A c), .agg (d'.cells A' c'), .pointer (some ⟨w.heap.size, 0, none⟩), .pointer (some ⟨g2, 0, none⟩), .bool false, .pointer (some ⟨w.heap.size, 0, none⟩), .int .u16 d.src, .pointer (some ⟨g2, 0, none⟩), .int .u16 d'.src, .bool false, .bool false, undef, undef, undef, undef, undef, .bool false, .bool false, undef, undef, undef, undef, undef, .bool false]) _ _ (by kernel_rfl) ?_
    change Code.wp _ Code.ret _ _ _
    refine wp_ret ?_
    exact bodyPost_ret (res_tmp Try.results15 rfl) rfl ⟨_, rfl, Lib.hid (by simp [sameU, hsrc]), hB⟩

set_option maxRecDepth 100000 in
theorem sameT_any (B1 B2 : Nat) (d d' : DT) (p p' : WT) (w : World) (yo : By B1 w p.oA d.ol.length p.oc d.ol) (zo : By B2 w p'.oA d'.ol.length p'.oc d'.ol) (yb : By B1 w p.bA d.bl.length p.bc d.bl) (zb : By B2 w p'.bA d'.bl.length p'.bc d'.bl)
    (hB1 : B1 ≤ w.heap.size) (hB2 : B2 ≤ w.heap.size) :
    Calls Try.prog 13 #[.agg (d.cells p), .agg (d'.cells p')] w fun e w' => ∃ q : Bool, e = .returned (.bool q) ∧ Hid (q = sameT d d') ∧ Below w.heap.size w w' := by
  have hB : Below w.heap.size w ((w.alloc (.cells (d.cells p) 26)).alloc (.cells (d'.cells p') 26)) := ((Below.refl _ _).alloc (Nat.le_refl _) _).alloc (by simp) _
  have hL : Has ((w.alloc (.cells (d.cells p) 26)).alloc (.cells (d'.cells p') 26)) w.heap.size (.cells (d.cells p) 26 (0, 0)) := (Has.newAt rfl).alloc
  have hR : Has ((w.alloc (.cells (d.cells p) 26)).alloc (.cells (d'.cells p') 26)) (w.alloc (.cells (d.cells p) 26)).heap.size (.cells (d'.cells p') 26 (0, 0)) := Has.newAt rfl
  have yo := yo.below hB hB1
  have zo := zo.below hB hB2
  have yb := yb.below hB hB1
  have zb := zb.below hB hB2
  go_enter Try.func13, Try.ntmps13
  -- CHAIN ferryman/segment.SameTCP sameT.json
  refine wp_seq (wp_region_lit ?_)
  refine wl_box 26 _ _ rfl rfl rfl ?_
  simp only [Act.put, List.setIfInBounds_toArray, List.set_cons_zero, List.set_cons_succ]
  refine wl_box 26 _ _ rfl rfl rfl ?_
  simp only [Act.put, List.setIfInBounds_toArray, List.set_cons_zero, List.set_cons_succ]
  refine wl (.bool false) (by kernel_rfl) (by exact rfl) ?_
  simp only [Act.put, List.setIfInBounds_toArray, List.set_cons_zero, List.set_cons_succ]
  refine wpList_nil ?_
  change Code.wp _ _ _ _ _
  generalize (w.alloc (.cells (d.cells p) 26)).heap.size = g2 at hR ⊢
  generalize (w.alloc (.cells (d.cells p) 26)).alloc (.cells (d'.cells p') 26) = W at hL hR hB yo zo yb zb ⊢
  refine wp_seq (wp_region_lit ?_)
  refine wl (.pointer (some ⟨w.heap.size, 0, none⟩)) (by kernel_rfl) (by exact ex_field 0 0 (by exact rfl) Try.underlying26 (by exact rfl) rfl (by kernel_rfl) (by exact rfl)) ?_
  simp only [Act.put, List.setIfInBounds_toArray, List.set_cons_zero, List.set_cons_succ]
  refine wl (.int .u16 d.src) (by kernel_rfl) (by exact ex_cell (by exact rfl) Try.underlying22 rfl (by exact rfl) (hL.cell 0 rfl)) ?_
  simp only [Act.put, List.setIfInBounds_toArray, List.set_cons_zero, List.set_cons_succ]
  refine wl (.pointer (some ⟨g2, 0, none⟩)) (by kernel_rfl) (by exact ex_field 0 0 (by exact rfl) Try.underlying26 (by exact rfl) rfl (by kernel_rfl) (by exact rfl)) ?_
  simp only [Act.put, List.setIfInBounds_toArray, List.set_cons_zero, List.set_cons_succ]
  refine wl (.int .u16 d'.src) (by kernel_rfl) (by exact ex_cell (by exact rfl) Try.underlying22 rfl (by exact rfl) (hR.cell 0 rfl)) ?_
  simp only [Act.put, List.setIfInBounds_toArray, List.set_cons_zero, List.set_cons_succ]
  by_cases hsrc : d.src = d'.src
  · refine wl (.bool true) (by kernel_rfl) (by exact eq_int_eq (by exact rfl) (by exact rfl) (by exact rfl) hsrc) ?_
    simp only [Act.put, List.setIfInBounds_toArray, List.set_cons_zero, List.set_cons_succ]
    refine wl (.bool true) (by kernel_rfl) (by exact rfl) ?_
    simp only [Act.put, List.setIfInBounds_toArray, List.set_cons_zero, List.set_cons_succ]
    refine wl (.pointer (some ⟨w.heap.size, 1, none⟩)) (by kernel_rfl) (by exact ex_field 1 0 (by exact rfl) Try.underlying26 (by exact rfl) rfl (by kernel_rfl) (by exact rfl)) ?_
    simp only [Act.put, List.setIfInBounds_toArray, List.set_cons_zero, List.set_cons_succ]
    refine wl (.int .u16 d.dst) (by kernel_rfl) (by exact ex_cell (by exact rfl) Try.underlying22 rfl (by exact rfl) (hL.cell 1 rfl)) ?_
    simp only [Act.put, List.setIfInBounds_toArray, List.set_cons_zero, List.set_cons_succ]
    refine wl (.pointer (some ⟨g2, 1, none⟩)) (by kernel_rfl) (by exact ex_field 1 0 (by exact rfl) Try.underlying26 (by exact rfl) rfl (by kernel_rfl) (by exact rfl)) ?_
    simp only [Act.put, List.setIfInBounds_toArray, List.set_cons_zero, List.set_cons_succ]
    refine wl (.int .u16 d'.dst) (by kernel_rfl) (by exact ex_cell (by exact rfl) Try.underlying22 rfl (by exact rfl) (hR.cell 1 rfl)) ?_
    simp only [Act.put, List.setIfInBounds_toArray, List.set_cons_zero, List.set_cons_succ]
    by_cases hdst : d.dst = d'.dst
    · refine wl (.bool true) (by kernel_rfl) (by exact eq_int_eq (by exact rfl) (by exact rfl) (by exact rfl) hdst) ?_
      simp only [Act.put, List.setIfInBounds_toArray, List.set_cons_zero, List.set_cons_succ]
      refine wl (.bool true) (by kernel_rfl) (by exact rfl) ?_
      simp only [Act.put, List.setIfInBounds_toArray, List.set_cons_zero, List.set_cons_succ]
      refine wl (.bool true) (by kernel_rfl) (by exact rfl) ?_
      simp only [Act.put, List.setIfInBounds_toArray, List.set_cons_zero, List.set_cons_succ]
      refine wl (.pointer (some ⟨w.heap.size, 2, none⟩)) (by kernel_rfl) (by exact ex_field 2 0 (by exact rfl) Try.underlying26 (by exact rfl) rfl (by kernel_rfl) (by exact rfl)) ?_
      simp only [Act.put, List.setIfInBounds_toArray, List.set_cons_zero, List.set_cons_succ]
      refine wl (.int .u32 d.seq) (by kernel_rfl) (by exact ex_cell (by exact rfl) Try.underlying23 rfl (by exact rfl) (hL.cell 2 rfl)) ?_
      simp only [Act.put, List.setIfInBounds_toArray, List.set_cons_zero, List.set_cons_succ]
      refine wl (.pointer (some ⟨g2, 2, none⟩)) (by kernel_rfl) (by exact ex_field 2 0 (by exact rfl) Try.underlying26 (by exact rfl) rfl (by kernel_rfl) (by exact rfl)) ?_
      simp only [Act.put, List.setIfInBounds_toArray, List.set_cons_zero, List.set_cons_succ]
      refine wl (.int .u32 d'.seq) (by kernel_rfl) (by exact ex_cell (by exact rfl) Try.underlying23 rfl (by exact rfl) (hR.cell 2 rfl)) ?_
      simp only [Act.put, List.setIfInBounds_toArray, List.set_cons_zero, List.set_cons_succ]
      by_cases hseq : d.seq = d'.seq
      · refine wl (.bool true) (by kernel_rfl) (by exact eq_int_eq (by exact rfl) (by exact rfl) (by exact rfl) hseq) ?_
        simp only [Act.put, List.setIfInBounds_toArray, List.set_cons_zero, List.set_cons_succ]
        refine wl (.bool true) (by kernel_rfl) (by exact rfl) ?_
        simp only [Act.put, List.setIfInBounds_toArray, List.set_cons_zero, List.set_cons_succ]
        refine wl (.bool true) (by kernel_rfl) (by exact rfl) ?_
        simp only [Act.put, List.setIfInBounds_toArray, List.set_cons_zero, List.set_cons_succ]
        refine wl (.pointer (some ⟨w.heap.size, 3, none⟩)) (by kernel_rfl) (by exact ex_field 3 0 (by exact rfl) Try.underlying26 (by exact rfl) rfl (by kernel_rfl) (by exact rfl)) ?_
        simp only [Act.put, List.setIfInBounds_toArray, List.set_cons_zero, List.set_cons_succ]
        refine wl (.int .u32 d.ack) (by kernel_rfl) (by exact ex_cell (by exact rfl) Try.underlying23 rfl (by exact rfl) (hL.cell 3 rfl)) ?_
        simp only [Act.put, List.setIfInBounds_toArray, List.set_cons_zero, List.set_cons_succ]
        refine wl (.pointer (some ⟨g2, 3, none⟩)) (by kernel_rfl) (by exact ex_field 3 0 (by exact rfl) Try.underlying26 (by exact rfl) rfl (by kernel_rfl) (by exact rfl)) ?_
        simp only [Act.put, List.setIfInBounds_toArray, List.set_cons_zero, List.set_cons_succ]
        refine wl (.int .u32 d'.ack) (by kernel_rfl) (by exact ex_cell (by exact rfl) Try.underlying23 rfl (by exact rfl) (hR.cell 3 rfl)) ?_
        simp only [Act.put, List.setIfInBounds_toArray, List.set_cons_zero, List.set_cons_succ]
        by_cases hack : d.ack = d'.ack
        · refine wl (.bool true) (by kernel_rfl) (by exact eq_int_eq (by exact rfl) (by exact rfl) (by exact rfl) hack) ?_
          simp only [Act.put, List.setIfInBounds_toArray, List.set_cons_zero, List.set_cons_succ]
          refine wl (.bool true) (by kernel_rfl) (by exact rfl) ?_
          simp only [Act.put, List.setIfInBounds_toArray, List.set_cons_zero, List.set_cons_succ]
          refine wl (.bool true) (by kernel_rfl) (by exact rfl) ?_
          simp only [Act.put, List.setIfInBounds_toArray, List.set_cons_zero, List.set_cons_succ]
          refine wl (.pointer (some ⟨w.heap.size, 4, none⟩)) (by kernel_rfl) (by exact ex_field 4 0 (by exact rfl) Try.underlying26 (by exact rfl) rfl (by kernel_rfl) (by exact rfl)) ?_
          simp only [Act.put, List.setIfInBounds_toArray, List.set_cons_zero, List.set_cons_succ]
          refine wl (.int .u8 d.flags) (by kernel_rfl) (by exact ex_cell (by exact rfl) Try.underlying5 rfl (by exact rfl) (hL.cell 4 rfl)) ?_
          simp only [Act.put, List.setIfInBounds_toArray, List.set_cons_zero, List.set_cons_succ]
          refine wl (.pointer (some ⟨g2, 4, none⟩)) (by kernel_rfl) (by exact ex_field 4 0 (by exact rfl) Try.underlying26 (by exact rfl) rfl (by kernel_rfl) (by exact rfl)) ?_
          simp only [Act.put, List.setIfInBounds_toArray, List.set_cons_zero, List.set_cons_succ]
          refine wl (.int .u8 d'.flags) (by kernel_rfl) (by exact ex_cell (by exact rfl) Try.underlying5 rfl (by exact rfl) (hR.cell 4 rfl)) ?_
          simp only [Act.put, List.setIfInBounds_toArray, List.set_cons_zero, List.set_cons_succ]
          by_cases hflags : d.flags = d'.flags
          · refine wl (.bool true) (by kernel_rfl) (by exact eq_int_eq (by exact rfl) (by exact rfl) (by exact rfl) hflags) ?_
            simp only [Act.put, List.setIfInBounds_toArray, List.set_cons_zero, List.set_cons_succ]
            refine wl (.bool true) (by kernel_rfl) (by exact rfl) ?_
            simp only [Act.put, List.setIfInBounds_toArray, List.set_cons_zero, List.set_cons_succ]
            refine wl (.bool true) (by kernel_rfl) (by exact rfl) ?_
            simp only [Act.put, List.setIfInBounds_toArray, List.set_cons_zero, List.set_cons_succ]
            refine wl (.pointer (some ⟨w.heap.size, 5, none⟩)) (by kernel_rfl) (by exact ex_field 5 0 (by exact rfl) Try.underlying26 (by exact rfl) rfl (by kernel_rfl) (by exact rfl)) ?_
            simp only [Act.put, List.setIfInBounds_toArray, List.set_cons_zero, List.set_cons_succ]
            refine wl (.int .u16 d.window) (by kernel_rfl) (by exact ex_cell (by exact rfl) Try.underlying22 rfl (by exact rfl) (hL.cell 5 rfl)) ?_
            simp only [Act.put, List.setIfInBounds_toArray, List.set_cons_zero, List.set_cons_succ]
            refine wl (.pointer (some ⟨g2, 5, none⟩)) (by kernel_rfl) (by exact ex_field 5 0 (by exact rfl) Try.underlying26 (by exact rfl) rfl (by kernel_rfl) (by exact rfl)) ?_
            simp only [Act.put, List.setIfInBounds_toArray, List.set_cons_zero, List.set_cons_succ]
            refine wl (.int .u16 d'.window) (by kernel_rfl) (by exact ex_cell (by exact rfl) Try.underlying22 rfl (by exact rfl) (hR.cell 5 rfl)) ?_
            simp only [Act.put, List.setIfInBounds_toArray, List.set_cons_zero, List.set_cons_succ]
            by_cases hwindow : d.window = d'.window
            · refine wl (.bool true) (by kernel_rfl) (by exact eq_int_eq (by exact rfl) (by exact rfl) (by exact rfl) hwindow) ?_
              simp only [Act.put, List.setIfInBounds_toArray, List.set_cons_zero, List.set_cons_succ]
              refine wl (.bool true) (by kernel_rfl) (by exact rfl) ?_
              simp only [Act.put, List.setIfInBounds_toArray, List.set_cons_zero, List.set_cons_succ]
              refine wl (.bool true) (by kernel_rfl) (by exact rfl) ?_
              simp only [Act.put, List.setIfInBounds_toArray, List.set_cons_zero, List.set_cons_succ]
              refine wl (.pointer (some ⟨w.heap.size, 6, none⟩)) (by kernel_rfl) (by exact ex_field 6 0 (by exact rfl) Try.underlying26 (by exact rfl) rfl (by kernel_rfl) (by exact rfl)) ?_
              simp only [Act.put, List.setIfInBounds_toArray, List.set_cons_zero, List.set_cons_succ]
              refine wl (.int .u16 d.urgent) (by kernel_rfl) (by exact ex_cell (by exact rfl) Try.underlying22 rfl (by exact rfl) (hL.cell 6 rfl)) ?_
              simp only [Act.put, List.setIfInBounds_toArray, List.set_cons_zero, List.set_cons_succ]
              refine wl (.pointer (some ⟨g2, 6, none⟩)) (by kernel_rfl) (by exact ex_field 6 0 (by exact rfl) Try.underlying26 (by exact rfl) rfl (by kernel_rfl) (by exact rfl)) ?_
              simp only [Act.put, List.setIfInBounds_toArray, List.set_cons_zero, List.set_cons_succ]
              refine wl (.int .u16 d'.urgent) (by kernel_rfl) (by exact ex_cell (by exact rfl) Try.underlying22 rfl (by exact rfl) (hR.cell 6 rfl)) ?_
              simp only [Act.put, List.setIfInBounds_toArray, List.set_cons_zero, List.set_cons_succ]
              by_cases hurgent : d.urgent = d'.urgent
              · refine wl (.bool true) (by kernel_rfl) (by exact eq_int_eq (by exact rfl) (by exact rfl) (by exact rfl) hurgent) ?_
                simp only [Act.put, List.setIfInBounds_toArray, List.set_cons_zero, List.set_cons_succ]
                refine wl (.bool true) (by kernel_rfl) (by exact rfl) ?_
                simp only [Act.put, List.setIfInBounds_toArray, List.set_cons_zero, List.set_cons_succ]
                refine wl (.bool true) (by kernel_rfl) (by exact rfl) ?_
                simp only [Act.put, List.setIfInBounds_toArray, List.set_cons_zero, List.set_cons_succ]
                refine wl (.pointer (some ⟨w.heap.size, 7, none⟩)) (by kernel_rfl) (by exact ex_field 7 0 (by exact rfl) Try.underlying26 (by exact rfl) rfl (by kernel_rfl) (by exact rfl)) ?_
                simp only [Act.put, List.setIfInBounds_toArray, List.set_cons_zero, List.set_cons_succ]
                refine wl (.slice p.oA d.ol.length p.oc) (by kernel_rfl) (by exact ex_cell (by exact rfl) Try.underlying24 rfl (by exact rfl) (hL.cell 7 rfl)) ?_
                simp only [Act.put, List.setIfInBounds_toArray, List.set_cons_zero, List.set_cons_succ]
                refine wl (.pointer (some ⟨g2, 7, none⟩)) (by kernel_rfl) (by exact ex_field 7 0 (by exact rfl) Try.underlying26 (by exact rfl) rfl (by kernel_rfl) (by exact rfl)) ?_
                simp only [Act.put, List.setIfInBounds_toArray, List.set_cons_zero, List.set_cons_succ]
                refine wl (.slice p'.oA d'.ol.length p'.oc) (by kernel_rfl) (by exact ex_cell (by exact rfl) Try.underlying24 rfl (by exact rfl) (hR.cell 7 rfl)) ?_
                simp only [Act.put, List.setIfInBounds_toArray, List.set_cons_zero, List.set_cons_succ]
                by_cases ho : d.ol = d'.ol
                · refine wl_call (.bool true) (by kernel_rfl) (by exact ex_call (by exact rfl) Try.func41 (by kernel_rfl) (by kernel_rfl) (by simp only [List.map_toArray, List.map_cons, List.map_nil] <;> rfl)) ((equal_any _ _ p.oA p'.oA p.oc p'.oc d.ol d'.ol _ yo zo).mono fun e w' g => ⟨by rw [g.1, decide_eq_true ho], g.2⟩) ?_
                  simp only [Act.put, List.setIfInBounds_toArray, List.set_cons_zero, List.set_cons_succ]
                  refine wl (.bool true) (by kernel_rfl) (by exact rfl) ?_
                  simp only [Act.put, List.setIfInBounds_toArray, List.set_cons_zero, List.set_cons_succ]
                  refine wl (.bool true) (by kernel_rfl) (by exact rfl) ?_
                  simp only [Act.put, List.setIfInBounds_toArray, List.set_cons_zero, List.set_cons_succ]
                  refine wl (.pointer (some ⟨w.heap.size, 8, none⟩)) (by kernel_rfl) (by exact ex_field 8 0 (by exact rfl) Try.underlying26 (by exact rfl) rfl (by kernel_rfl) (by exact rfl)) ?_
                  simp only [Act.put, List.setIfInBounds_toArray, List.set_cons_zero, List.set_cons_succ]
                  refine wl (.slice p.bA d.bl.length p.bc) (by kernel_rfl) (by exact ex_cell (by exact rfl) Try.underlying24 rfl (by exact rfl) (hL.cell 8 rfl)) ?_
                  simp only [Act.put, List.setIfInBounds_toArray, List.set_cons_zero, List.set_cons_succ]
                  refine wl (.pointer (some ⟨g2, 8, none⟩)) (by kernel_rfl) (by exact ex_field 8 0 (by exact rfl) Try.underlying26 (by exact rfl) rfl (by kernel_rfl) (by exact rfl)) ?_
                  simp only [Act.put, List.setIfInBounds_toArray, List.set_cons_zero, List.set_cons_succ]
                  refine wl (.slice p'.bA d'.bl.length p'.bc) (by kernel_rfl) (by exact ex_cell (by exact rfl) Try.underlying24 rfl (by exact rfl) (hR.cell 8 rfl)) ?_
                  simp only [Act.put, List.setIfInBounds_toArray, List.set_cons_zero, List.set_cons_succ]
                  by_cases hb : d.bl = d'.bl
                  · refine wl_call (.bool true) (by kernel_rfl) (by exact ex_call (by exact rfl) Try.func41 (by kernel_rfl) (by kernel_rfl) (by simp only [List.map_toArray, List.map_cons, List.map_nil] <;> rfl)) ((equal_any _ _ p.bA p'.bA p.bc p'.bc d.bl d'.bl _ yb zb).mono fun e w' g => ⟨by rw [g.1, decide_eq_true hb], g.2⟩) ?_
                    simp only [Act.put, List.setIfInBounds_toArray, List.set_cons_zero, List.set_cons_succ]
                    refine wl (.bool true) (by kernel_rfl) (by exact rfl) ?_
                    simp only [Act.put, List.setIfInBounds_toArray, List.set_cons_zero, List.set_cons_succ]
                    refine wl (.bool true) (by kernel_rfl) (by exact rfl) ?_
                    simp only [Act.put, List.setIfInBounds_toArray, List.set_cons_zero, List.set_cons_succ]
                    refine wpList_nil ?_
                    change Code.wp _ Code.ret _ _ _
                    refine wp_ret ?_
                    exact bodyPost_ret (res_tmp Try.results13 rfl) rfl ⟨_, rfl, Lib.hid (by simp [sameT, hsrc, hdst, hseq, hack, hflags, hwindow, hurgent, ho, hb]), hB⟩
                  · refine wl_call (.bool false) (by kernel_rfl) (by exact ex_call (by exact rfl) Try.func41 (by kernel_rfl) (by kernel_rfl) (by simp only [List.map_toArray, List.map_cons, List.map_nil] <;> rfl)) ((equal_any _ _ p.bA p'.bA p.bc p'.bc d.bl d'.bl _ yb zb).mono fun e w' g => ⟨by rw [g.1, decide_eq_false hb], g.2⟩) ?_
                    simp only [Act.put, List.setIfInBounds_toArray, List.set_cons_zero, List.set_cons_succ]
                    refine skip_ok (t' := #[.agg (d.cells p), .agg (d'.cells p'), .pointer (some ⟨w.heap.size, 0, none⟩), .pointer (some ⟨g2, 0, none⟩), .bool false, .pointer (some ⟨w.heap.size, 0, none⟩), .int .u16 d.src, .pointer (some ⟨g2, 0, none⟩), .int .u16 d'.src, .bool true, .bool true, .pointer (some ⟨w.heap.size, 1, none⟩), .int .u16 d.dst, .pointer (some ⟨g2, 1, none⟩), .int .u16 d'.dst, .bool true, .bool true, .bool true, .pointer (some ⟨w.heap.size, 2, none⟩), .int .u32 d.seq, .pointer (some ⟨g2, 2, none⟩), .int .u32 d'.seq, .bool true, .bool true, .bool true, .pointer (some ⟨w.heap.size, 3, none⟩), .int .u32 d.ack, .pointer (some ⟨g2, 3, none⟩), .int .u32 d'.ack, .bool true, .bool true, .bool true, .pointer (some ⟨w.heap.size, 4, none⟩), .int .u8 d.flags, .pointer (some ⟨g2, 4, none⟩), .int .u8 d'.flags, .bool true, .bool true, .bool true, .pointer (some ⟨w.heap.size, 5, none⟩), .int .u16 d.window, .pointer (some ⟨g2, 5, none⟩), .int .u16 d'.window, .bool true, .bool true, .bool true, .pointer (some ⟨w.heap.size, 6, none⟩), .int .u16 d.urgent, .pointer (some ⟨g2, 6, none⟩), .int .u16 d'.urgent, .bool true, .bool true, .bool true, .pointer (some ⟨w.heap.size, 7, none⟩), .slice p.oA d.ol.length p.oc, .pointer (some ⟨g2, 7, none⟩), .slice p'.oA d'.ol.length p'.oc, .bool true, .bool true, .bool true, .pointer (some ⟨w.heap.size, 8, none⟩), .slice p.bA d.bl.length p.bc, .pointer (some ⟨g2, 8, none⟩), .slice p'.bA d'.bl.length p'.bc, .bool false, .bool false]) _ _ (by kernel_rfl) ?_
                    change Code.wp _ Code.ret _ _ _
                    refine wp_ret ?_
                    exact bodyPost_ret (res_tmp Try.results13 rfl) rfl ⟨_, rfl, Lib.hid (by simp [sameT, hsrc, hdst, hseq, hack, hflags, hwindow, hurgent, ho, hb]), hB⟩
                · refine wl_call (.bool false) (by kernel_rfl) (by exact ex_call (by exact rfl) Try.func41 (by kernel_rfl) (by kernel_rfl) (by simp only [List.map_toArray, List.map_cons, List.map_nil] <;> rfl)) ((equal_any _ _ p.oA p'.oA p.oc p'.oc d.ol d'.ol _ yo zo).mono fun e w' g => ⟨by rw [g.1, decide_eq_false ho], g.2⟩) ?_
                  simp only [Act.put, List.setIfInBounds_toArray, List.set_cons_zero, List.set_cons_succ]
                  refine skip_ok (t' := #[.agg (d.cells p), .agg (d'.cells p'), .pointer (some ⟨w.heap.size, 0, none⟩), .pointer (some ⟨g2, 0, none⟩), .bool false, .pointer (some ⟨w.heap.size, 0, none⟩), .int .u16 d.src, .pointer (some ⟨g2, 0, none⟩), .int .u16 d'.src, .bool true, .bool true, .pointer (some ⟨w.heap.size, 1, none⟩), .int .u16 d.dst, .pointer (some ⟨g2, 1, none⟩), .int .u16 d'.dst, .bool true, .bool true, .bool true, .pointer (some ⟨w.heap.size, 2, none⟩), .int .u32 d.seq, .pointer (some ⟨g2, 2, none⟩), .int .u32 d'.seq, .bool true, .bool true, .bool true, .pointer (some ⟨w.heap.size, 3, none⟩), .int .u32 d.ack, .pointer (some ⟨g2, 3, none⟩), .int .u32 d'.ack, .bool true, .bool true, .bool true, .pointer (some ⟨w.heap.size, 4, none⟩), .int .u8 d.flags, .pointer (some ⟨g2, 4, none⟩), .int .u8 d'.flags, .bool true, .bool true, .bool true, .pointer (some ⟨w.heap.size, 5, none⟩), .int .u16 d.window, .pointer (some ⟨g2, 5, none⟩), .int .u16 d'.window, .bool true, .bool true, .bool true, .pointer (some ⟨w.heap.size, 6, none⟩), .int .u16 d.urgent, .pointer (some ⟨g2, 6, none⟩), .int .u16 d'.urgent, .bool true, .bool true, .bool true, .pointer (some ⟨w.heap.size, 7, none⟩), .slice p.oA d.ol.length p.oc, .pointer (some ⟨g2, 7, none⟩), .slice p'.oA d'.ol.length p'.oc, .bool false, .bool false, .bool false, undef, undef, undef, undef, undef, .bool false]) _ _ (by kernel_rfl) ?_
                  change Code.wp _ Code.ret _ _ _
                  refine wp_ret ?_
                  exact bodyPost_ret (res_tmp Try.results13 rfl) rfl ⟨_, rfl, Lib.hid (by simp [sameT, hsrc, hdst, hseq, hack, hflags, hwindow, hurgent, ho]), hB⟩
              · refine wl (.bool false) (by kernel_rfl) (by exact eq_int_ne (by exact rfl) (by exact rfl) (by exact rfl) hurgent) ?_
                simp only [Act.put, List.setIfInBounds_toArray, List.set_cons_zero, List.set_cons_succ]
                refine skip_ok (t' := #[.agg (d.cells p), .agg (d'.cells p'), .pointer (some ⟨w.heap.size, 0, none⟩), .pointer (some ⟨g2, 0, none⟩), .bool false, .pointer (some ⟨w.heap.size, 0, none⟩), .int .u16 d.src, .pointer (some ⟨g2, 0, none⟩), .int .u16 d'.src, .bool true, .bool true, .pointer (some ⟨w.heap.size, 1, none⟩), .int .u16 d.dst, .pointer (some ⟨g2, 1, none⟩), .int .u16 d'.dst, .bool true, .bool true, .bool true, .pointer (some ⟨w.heap.size, 2, none⟩), .int .u32 d.seq, .pointer (some ⟨g2, 2, none⟩), .int .u32 d'.seq, .bool true, .bool true, .bool true, .pointer (some ⟨w.heap.size, 3, none⟩), .int .u32 d.ack, .pointer (some ⟨g2, 3, none⟩), .int .u32 d'.ack, .bool true, .bool true, .bool true, .pointer (some ⟨w.heap.size, 4, none⟩), .int .u8 d.flags, .pointer (some ⟨g2, 4, none⟩), .int .u8 d'.flags, .bool true, .bool true, .bool true, .pointer (some ⟨w.heap.size, 5, none⟩), .int .u16 d.window, .pointer (some ⟨g2, 5, none⟩), .int .u16 d'.window, .bool true, .bool true, .bool true, .pointer (some ⟨w.heap.size, 6, none⟩), .int .u16 d.urgent, .pointer (some ⟨g2, 6, none⟩), .int .u16 d'.urgent, .bool false, .bool false, .bool false, undef, undef, undef, undef, undef, .bool false, .bool false, undef, undef, undef, undef, undef, .bool false]) _ _ (by kernel_rfl) ?_
                change Code.wp _ Code.ret _ _ _
                refine wp_ret ?_
                exact bodyPost_ret (res_tmp Try.results13 rfl) rfl ⟨_, rfl, Lib.hid (by simp [sameT, hsrc, hdst, hseq, hack, hflags, hwindow, hurgent]), hB⟩
            · refine wl (.bool false) (by kernel_rfl) (by exact eq_int_ne (by exact rfl) (by exact rfl) (by exact rfl) hwindow) ?_
              simp only [Act.put, List.setIfInBounds_toArray, List.set_cons_zero, List.set_cons_succ]
              refine skip_ok (t' := #[.agg (d.cells p), .agg (d'.cells p'), .pointer (some ⟨w.heap.size, 0, none⟩), .pointer (some ⟨g2, 0, none⟩), .bool false, .pointer (some ⟨w.heap.size, 0, none⟩), .int .u16 d.src, .pointer (some ⟨g2, 0, none⟩), .int .u16 d'.src, .bool true, .bool true, .pointer (some ⟨w.heap.size, 1, none⟩), .int .u16 d.dst, .pointer (some ⟨g2, 1, none⟩), .int .u16 d'.dst, .bool true, .bool true, .bool true, .pointer (some ⟨w.heap.size, 2, none⟩), .int .u32 d.seq, .pointer (some ⟨g2, 2, none⟩), .int .u32 d'.seq, .bool true, .bool true, .bool true, .pointer (some ⟨w.heap.size, 3, none⟩), .int .u32 d.ack, .pointer (some ⟨g2, 3, none⟩), .int .u32 d'.ack, .bool true, .bool true, .bool true, .pointer (some ⟨w.heap.size, 4, none⟩), .int .u8 d.flags, .pointer (some ⟨g2, 4, none⟩), .int .u8 d'.flags, .bool true, .bool true, .bool true, .pointer (some ⟨w.heap.size, 5, none⟩), .int .u16 d.window, .pointer (some ⟨g2, 5, none⟩), .int .u16 d'.window, .bool false, .bool false, .bool false, undef, undef, undef, undef, undef, .bool false, .bool false, undef, undef, undef, undef, undef, .bool false, .bool false, undef, undef, undef, undef, undef, .bool false]) _ _ (by kernel_rfl) ?_
              change Code.wp _ Code.ret _ _ _
              refine wp_ret ?_
              exact bodyPost_ret (res_tmp Try.results13 rfl) rfl ⟨_, rfl, Lib.hid (by simp [sameT, hsrc, hdst, hseq, hack, hflags, hwindow]), hB⟩
          · refine wl (.bool false) (by kernel_rfl) (by exact eq_int_ne (by exact rfl) (by exact rfl) (by exact rfl) hflags) ?_
            simp only [Act.put, List.setIfInBounds_toArray, List.set_cons_zero, List.set_cons_succ]
            refine skip_ok (t' := #[.agg (d.cells p), .agg (d'.cells p'), .pointer (some ⟨w.heap.size, 0, none⟩), .pointer (some ⟨g2, 0, none⟩), .bool false, .pointer (some ⟨w.heap.size, 0, none⟩), .int .u16 d.src, .pointer (some ⟨g2, 0, none⟩), .int .u16 d'.src, .bool true, .bool true, .pointer (some ⟨w.heap.size, 1, none⟩), .int .u16 d.dst, .pointer (some ⟨g2, 1, none⟩), .int .u16 d'.dst, .bool true, .bool true, .bool true, .pointer (some ⟨w.heap.size, 2, none⟩), .int .u32 d.seq, .pointer (some ⟨g2, 2, none⟩), .int .u32 d'.seq, .bool true, .bool true, .bool true, .pointer (some ⟨w.heap.size, 3, none⟩), .int .u32 d.ack, .pointer (some ⟨g2, 3, none⟩), .int .u32 d'.ack, .bool true, .bool true, .bool true, .pointer (some ⟨w.heap.size, 4, none⟩), .int .u8 d.flags, .pointer (some ⟨g2, 4, none⟩), .int .u8 d'.flags, .bool false, .bool false, .bool false, undef, undef, undef, undef, undef, .bool false, .bool false, undef, undef, undef, undef, undef, .bool false, .bool false, undef, undef, undef, undef, undef, .bool false, .bool false, undef, undef, undef, undef, undef, .bool false]) _ _ (by kernel_rfl) ?_
            change Code.wp _ Code.ret _ _ _
            refine wp_ret ?_
            exact bodyPost_ret (res_tmp Try.results13 rfl) rfl ⟨_, rfl, Lib.hid (by simp [sameT, hsrc, hdst, hseq, hack, hflags]), hB⟩
        · refine wl (.bool false) (by kernel_rfl) (by exact eq_int_ne (by exact rfl) (by exact rfl) (by exact rfl) hack) ?_
          simp only [Act.put, List.setIfInBounds_toArray, List.set_cons_zero, List.set_cons_succ]
          refine skip_ok (t' := #[.agg (d.cells p), .agg (d'.cells p'), .pointer (some ⟨w.heap.size, 0, none⟩), .pointer (some ⟨g2, 0, none⟩), .bool false, .pointer (some ⟨w.heap.size, 0, none⟩), .int .u16 d.src, .pointer (some ⟨g2, 0, none⟩), .int .u16 d'.src, .bool true, .bool true, .pointer (some ⟨w.heap.size, 1, none⟩), .int .u16 d.dst, .pointer (some ⟨g2, 1, none⟩), .int .u16 d'.dst, .bool true, .bool true, .bool true, .pointer (some ⟨w.heap.size, 2, none⟩), .int .u32 d.seq, .pointer (some ⟨g2, 2, none⟩), .int .u32 d'.seq, .bool true, .bool true, .bool true, .pointer (some ⟨w.heap.size, 3, none⟩), .int .u32 d.ack, .pointer (some ⟨g2, 3, none⟩), .int .u32 d'.ack, .bool false, .bool false, .bool false, undef, undef, undef, undef, undef, .bool false, .bool false, undef, undef, undef, undef, undef, .bool false, .bool false, undef, undef, undef, undef, undef, .bool false, .bool false, undef, undef, undef, undef, undef, .bool false, .bool false, undef, undef, undef, undef, undef, .bool false]) _ _ (by kernel_rfl) ?_
          change Code.wp _ Code.ret _ _ _
          refine wp_ret ?_
          exact bodyPost_ret (res_tmp Try.results13 rfl) rfl ⟨_, rfl, Lib.hid (by simp [sameT, hsrc, hdst, hseq, hack]), hB⟩
      · refine wl (.bool false) (by kernel_rfl) (by exact eq_int_ne (by exact rfl) (by exact rfl) (by exact rfl) hseq) ?_
        simp only [Act.put, List.setIfInBounds_toArray, List.set_cons_zero, List.set_cons_succ]
        refine skip_ok (t' := #[.agg (d.cells p), .agg (d'.cells p'), .pointer (some ⟨w.heap.size, 0, none⟩), .pointer (some ⟨g2, 0, none⟩), .bool false, .pointer (some ⟨w.heap.size, 0, none⟩), .int .u16 d.src, .pointer (some ⟨g2, 0, none⟩), .int .u16 d'.src, .bool true, .bool true, .pointer (some ⟨w.heap.size, 1, none⟩), .int .u16 d.dst, .pointer (some ⟨g2, 1, none⟩), .int .u16 d'.dst, .bool true, .bool true, .bool true, .pointer (some ⟨w.heap.size, 2, none⟩), .int .u32 d.seq, .pointer (some ⟨g2, 2, none⟩), .int .u32 d'.seq, .bool false, .bool false, .bool false, undef, undef, undef, undef, undef, .bool false, .bool false, undef, undef, undef, undef, undef, .bool false, .bool false, undef, undef, undef, undef, undef, .bool false, .bool false, undef, undef, undef, undef, undef, .bool false, .bool false, undef, undef, undef, undef, undef, .bool false, .bool false, undef, undef, undef, undef, undef, .bool false]) _ _ (by kernel_rfl) ?_
        change Code.wp _ Code.ret _ _ _
        refine wp_ret ?_
        exact bodyPost_ret (res_tmp Try.results13 rfl) rfl ⟨_, rfl, Lib.hid (by simp [sameT, hsrc, hdst, hseq]), hB⟩
    · refine wl (.bool false) (by kernel_rfl) (by exact eq_int_ne (by exact rfl) (by exact rfl) (by exact rfl) hdst) ?_
      simp only [Act.put, List.setIfInBounds_toArray, List.set_cons_zero, List.set_cons_succ]
      refine skip_ok (t' := #[.agg (d.cells p), .agg (d'.cells p'), .pointer (some ⟨w.heap.size, 0, none⟩), .pointer (some ⟨g2, 0, none⟩), .bool false, .pointer (some ⟨w.heap.size, 0, none⟩), .int .u16 d.src, .pointer (some ⟨g2, 0, none⟩), .int .u16 d'.src, .bool true, .bool true, .pointer (some ⟨w.heap.size, 1, none⟩), .int .u16 d.dst, .pointer (some ⟨g2, 1, none⟩), .int .u16 d'.dst, .bool false, .bool false, .bool false, undef, undef, undef, undef, undef, .bool false, .bool false, undef, undef, undef, undef, undef, .bool false, .bool false, undef, undef, undef, undef, undef, .bool false, .bool false, undef, undef, undef, undef, undef, .bool false, .bool false, undef, undef, undef, undef, undef, .bool false, .bool false, undef, undef, undef, undef, undef, .bool false, .bool false, undef, undef, undef, undef, undef, .bool false]) _ _ (by kernel_rfl) ?_
      change Code.wp _ Code.ret _ _ _
      refine wp_ret ?_
      exact bodyPost_ret (res_tmp Try.results13 rfl) rfl ⟨_, rfl, Lib.hid (by simp [sameT, hsrc, hdst]), hB⟩
  · refine wl (.bool false) (by kernel_rfl) (by exact eq_int_ne (by exact rfl) (by exact rfl) (by exact rfl) hsrc) ?_
    simp only [Act.put, List.setIfInBounds_toArray, List.set_cons_zero, List.set_cons_succ]
    refine skip_ok (t' := #[.agg (d.cells p), .agg (d'.cells p'), .pointer (some ⟨w.heap.size, 0, none⟩), .pointer (some ⟨g2, 0, none⟩), .bool false, .pointer (some ⟨w.heap.size, 0, none⟩), .int .u16 d.src, .pointer (some ⟨g2, 0, none⟩), .int .u16 d'.src, .bool false, .bool false, undef, undef, undef, undef, undef, .bool false, .bool false, undef, undef, undef, undef, undef, .bool false, .bool false, undef, undef, undef, undef, undef, .bool false, .bool false, undef, undef, undef, undef, undef, .bool false, .bool false, undef, undef, undef, undef, undef, .bool false, .bool false, undef, undef, undef, undef, undef, .bool false, .bool false, undef, undef, undef, undef, undef, .bool false, .bool false, undef, undef, undef, undef, undef, .bool false]) _ _ (by kernel_rfl) ?_
    change Code.wp _ Code.ret _ _ _
    refine wp_ret ?_
    exact bodyPost_ret (res_tmp Try.results13 rfl) rfl ⟨_, rfl, Lib.hid (by simp [sameT, hsrc]), hB⟩

set_option maxRecDepth 100000 in
theorem rsameU_any (B1 B2 : Nat) (d d' : DU) (A A' : Option Addr) (c c' : Nat) (w : World) (yb : By B1 w A d.bl.length c d.bl) (zb : By B2 w A' d'.bl.length c' d'.bl)
    (hB1 : B1 ≤ w.heap.size) (hB2 : B2 ≤ w.heap.size) :
    Calls Try.prog 16 #[.agg (d.cells A c), .agg (d'.cells A' c')] w fun e w' => ∃ q : Bool, e = .returned (.bool q) ∧ Hid (q = sameU d d') ∧ Below w.heap.size w w' := by
  have hB : Below w.heap.size w ((w.alloc (.cells (d.cells A c) 28)).alloc (.cells (d'.cells A' c') 28)) := ((Below.refl _ _).alloc (Nat.le_refl _) _).alloc (by simp) _
  have hL : Has ((w.alloc (.cells (d.cells A c) 28)).alloc (.cells (d'.cells A' c') 28)) w.heap.size (.cells (d.cells A c) 28 (0, 0)) := (Has.newAt rfl).alloc
  have hR : Has ((w.alloc (.cells (d.cells A c) 28)).alloc (.cells (d'.cells A' c') 28)) (w.alloc (.cells (d.cells A c) 28)).heap.size (.cells (d'.cells A' c') 28 (0, 0)) := Has.newAt rfl
  have yb := yb.below hB hB1
  have zb := zb.below hB hB2
  go_enter Try.func16, Try.ntmps16
  -- CHAIN ferryman/ferrymanref06.SameUDP sameU.json
  refine wp_seq (wp_region_lit ?_)
  refine wl_box 28 _ _ rfl rfl rfl ?_
  simp only [Act.put, List.setIfInBounds_toArray, List.set_cons_zero, List.set_cons_succ]
  refine wl_box 28 _ _ rfl rfl rfl ?_
  simp only [Act.put, List.setIfInBounds_toArray, List.set_cons_zero, List.set_cons_succ]
  refine wl (.bool false) (by kernel_rfl) (by exact rfl) ?_
  simp only [Act.put, List.setIfInBounds_toArray, List.set_cons_zero, List.set_cons_succ]
  refine wpList_nil ?_
  change Code.wp _ _ _ _ _
  generalize (w.alloc (.cells (d.cells A c) 28)).heap.size = g2 at hR ⊢
  generalize (w.alloc (.cells (d.cells A c) 28)).alloc (.cells (d'.cells A' c') 28) = W at hL hR hB yb zb ⊢
  refine wp_seq (wp_region_lit ?_)
  refine wl (.pointer (some ⟨w.heap.size, 0, none⟩)) (by kernel_rfl) (by exact ex_field 0 0 (by exact rfl) Try.underlying28 (by exact rfl) rfl (by kernel_rfl) (by exact rfl)) ?_
  simp only [Act.put, List.setIfInBounds_toArray, List.set_cons_zero, List.set_cons_succ]
  refine wl (.int .u16 d.src) (by kernel_rfl) (by exact ex_cell (by exact rfl) Try.underlying22 rfl (by exact rfl) (hL.cell 0 rfl)) ?_
  simp only [Act.put, List.setIfInBounds_toArray, List.set_cons_zero, List.set_cons_succ]
  refine wl (.pointer (some ⟨g2, 0, none⟩)) (by kernel_rfl) (by exact ex_field 0 0 (by exact rfl) Try.underlying28 (by exact rfl) rfl (by kernel_rfl) (by exact rfl)) ?_
  simp only [Act.put, List.setIfInBounds_toArray, List.set_cons_zero, List.set_cons_succ]
  refine wl (.int .u16 d'.src) (by kernel_rfl) (by exact ex_cell (by exact rfl) Try.underlying22 rfl (by exact rfl) (hR.cell 0 rfl)) ?_
  simp only [Act.put, List.setIfInBounds_toArray, List.set_cons_zero, List.set_cons_succ]
  by_cases hsrc : d.src = d'.src
  · refine wl (.bool true) (by kernel_rfl) (by exact eq_int_eq (by exact rfl) (by exact rfl) (by exact rfl) hsrc) ?_
    simp only [Act.put, List.setIfInBounds_toArray, List.set_cons_zero, List.set_cons_succ]
    refine wl (.bool true) (by kernel_rfl) (by exact rfl) ?_
    simp only [Act.put, List.setIfInBounds_toArray, List.set_cons_zero, List.set_cons_succ]
    refine wl (.pointer (some ⟨w.heap.size, 1, none⟩)) (by kernel_rfl) (by exact ex_field 1 0 (by exact rfl) Try.underlying28 (by exact rfl) rfl (by kernel_rfl) (by exact rfl)) ?_
    simp only [Act.put, List.setIfInBounds_toArray, List.set_cons_zero, List.set_cons_succ]
    refine wl (.int .u16 d.dst) (by kernel_rfl) (by exact ex_cell (by exact rfl) Try.underlying22 rfl (by exact rfl) (hL.cell 1 rfl)) ?_
    simp only [Act.put, List.setIfInBounds_toArray, List.set_cons_zero, List.set_cons_succ]
    refine wl (.pointer (some ⟨g2, 1, none⟩)) (by kernel_rfl) (by exact ex_field 1 0 (by exact rfl) Try.underlying28 (by exact rfl) rfl (by kernel_rfl) (by exact rfl)) ?_
    simp only [Act.put, List.setIfInBounds_toArray, List.set_cons_zero, List.set_cons_succ]
    refine wl (.int .u16 d'.dst) (by kernel_rfl) (by exact ex_cell (by exact rfl) Try.underlying22 rfl (by exact rfl) (hR.cell 1 rfl)) ?_
    simp only [Act.put, List.setIfInBounds_toArray, List.set_cons_zero, List.set_cons_succ]
    by_cases hdst : d.dst = d'.dst
    · refine wl (.bool true) (by kernel_rfl) (by exact eq_int_eq (by exact rfl) (by exact rfl) (by exact rfl) hdst) ?_
      simp only [Act.put, List.setIfInBounds_toArray, List.set_cons_zero, List.set_cons_succ]
      refine wl (.bool true) (by kernel_rfl) (by exact rfl) ?_
      simp only [Act.put, List.setIfInBounds_toArray, List.set_cons_zero, List.set_cons_succ]
      refine wl (.bool true) (by kernel_rfl) (by exact rfl) ?_
      simp only [Act.put, List.setIfInBounds_toArray, List.set_cons_zero, List.set_cons_succ]
      refine wl (.pointer (some ⟨w.heap.size, 2, none⟩)) (by kernel_rfl) (by exact ex_field 2 0 (by exact rfl) Try.underlying28 (by exact rfl) rfl (by kernel_rfl) (by exact rfl)) ?_
      simp only [Act.put, List.setIfInBounds_toArray, List.set_cons_zero, List.set_cons_succ]
      refine wl (.slice A d.bl.length c) (by kernel_rfl) (by exact ex_cell (by exact rfl) Try.underlying24 rfl (by exact rfl) (hL.cell 2 rfl)) ?_
      simp only [Act.put, List.setIfInBounds_toArray, List.set_cons_zero, List.set_cons_succ]
      refine wl (.string (strOfNums d.bl)) (by kernel_rfl) (by exact ex_conv (by exact rfl) (by exact rfl) (yb.conv (P := Try.prog) 24 9 Try.underlying24 Try.underlying5 Try.underlying9)) ?_
      simp only [Act.put, List.setIfInBounds_toArray, List.set_cons_zero, List.set_cons_succ]
      refine wl (.pointer (some ⟨g2, 2, none⟩)) (by kernel_rfl) (by exact ex_field 2 0 (by exact rfl) Try.underlying28 (by exact rfl) rfl (by kernel_rfl) (by exact rfl)) ?_
      simp only [Act.put, List.setIfInBounds_toArray, List.set_cons_zero, List.set_cons_succ]
      refine wl (.slice A' d'.bl.length c') (by kernel_rfl) (by exact ex_cell (by exact rfl) Try.underlying24 rfl (by exact rfl) (hR.cell 2 rfl)) ?_
      simp only [Act.put, List.setIfInBounds_toArray, List.set_cons_zero, List.set_cons_succ]
      refine wl (.string (strOfNums d'.bl)) (by kernel_rfl) (by exact ex_conv (by exact rfl) (by exact rfl) (zb.conv (P := Try.prog) 24 9 Try.underlying24 Try.underlying5 Try.underlying9)) ?_
      simp only [Act.put, List.setIfInBounds_toArray, List.set_cons_zero, List.set_cons_succ]
      by_cases hb : d.bl = d'.bl
      · refine wl (.bool true) (by kernel_rfl) (by exact eq_str_eq (by exact rfl) (by exact rfl) (by exact rfl) (by rw [hb])) ?_
        simp only [Act.put, List.setIfInBounds_toArray, List.set_cons_zero, List.set_cons_succ]
        refine wl (.bool true) (by kernel_rfl) (by exact rfl) ?_
        simp only [Act.put, List.setIfInBounds_toArray, List.set_cons_zero, List.set_cons_succ]
        refine wl (.bool true) (by kernel_rfl) (by exact rfl) ?_
        simp only [Act.put, List.setIfInBounds_toArray, List.set_cons_zero, List.set_cons_succ]
        refine wpList_nil ?_
        change Code.wp _ Code.ret _ _ _
        refine wp_ret ?_
        exact bodyPost_ret (res_tmp Try.results16 rfl) rfl ⟨_, rfl, Lib.hid (by simp [sameU, hsrc, hdst, hb]), hB⟩
      · refine wl (.bool false) (by kernel_rfl) (by exact eq_str_ne (by exact rfl) (by exact rfl) (by exact rfl) (by rw [strOfNums_beq yb.rng zb.rng, decide_eq_false hb])) ?_
        simp only [Act.put, List.setIfInBounds_toArray, List.set_cons_zero, List.set_cons_succ]
        refine skip_ok (t' := #[.agg (d.cells A c), .agg (d'.cells A' c'), .pointer (some ⟨w.heap.size, 0, none⟩), .pointer (some ⟨g2, 0, none⟩), .bool false, .pointer (some ⟨w.heap.size, 0, none⟩), .int .u16 d.src, .pointer (some ⟨g2, 0, none⟩), .int .u16 d'.src, .bool true, .bool true, .pointer (some ⟨w.heap.size, 1, none⟩), .int .u16 d.dst, .pointer (some ⟨g2, 1, none⟩), .int .u16 d'.dst, .bool true, .bool true, .bool true, .pointer (some ⟨w.heap.size, 2, none⟩), .slice A d.bl.length c, .string (strOfNums d.bl), .pointer (some ⟨g2, 2, none⟩), .slice A' d'.bl.length c', .string (strOfNums d'.bl), .bool false, .bool false]) _ _ (by kernel_rfl) ?_
        change Code.wp _ Code.ret _ _ _
        refine wp_ret ?_
        exact bodyPost_ret (res_tmp Try.results16 rfl) rfl ⟨_, rfl, Lib.hid (by simp [sameU, hsrc, hdst, hb]), hB⟩
    · refine wl (.bool false) (by kernel_rfl) (by exact eq_int_ne (by exact rfl) (by exact rfl) (by exact rfl) hdst) ?_
      simp only [Act.put, List.setIfInBounds_toArray, List.set_cons_zero, List.set_cons_succ]
      refine skip_ok (t' := #[.agg (d.cells A c), .agg (d'.cells A' c'), .pointer (some ⟨w.heap.size, 0, none⟩), .pointer (some ⟨g2, 0, none⟩), .bool false, .pointer (some ⟨w.heap.size, 0, none⟩), .int .u16 d.src, .pointer (some ⟨g2, 0, none⟩), .int .u16 d'.src, .bool true, .bool true, .pointer (some ⟨w.heap.size, 1, none⟩), .int .u16 d.dst, .pointer (some ⟨g2, 1, none⟩), .int .u16 d'.dst, .bool false, .bool false, .bool false, undef, undef, undef, undef, undef, undef, undef, .bool false]) _ _ (by kernel_rfl) ?_
      change Code.wp _ Code.ret _ _ _
      refine wp_ret ?_
      exact bodyPost_ret (res_tmp Try.results16 rfl) rfl ⟨_, rfl, Lib.hid (by simp [sameU, hsrc, hdst]), hB⟩
  · refine wl (.bool false) (by kernel_rfl) (by exact eq_int_ne (by exact rfl) (by exact rfl) (by exact rfl) hsrc) ?_
    simp only [Act.put, List.setIfInBounds_toArray, List.set_cons_zero, List.set_cons_succ]
    refine skip_ok (t' := #[.agg (d.cells A c), .agg (d'.cells A' c'), .pointer (some ⟨w.heap.size, 0, none⟩), .pointer (some ⟨g2, 0, none⟩), .bool false, .pointer (some ⟨w.heap.size, 0, none⟩), .int .u16 d.src, .pointer (some ⟨g2, 0, none⟩), .int .u16 d'.src, .bool false, .bool false, undef, undef, undef, undef, undef, .bool false, .bool false, undef, undef, undef, undef, undef, undef, undef, .bool false]) _ _ (by kernel_rfl) ?_
    change Code.wp _ Code.ret _ _ _
    refine wp_ret ?_
    exact bodyPost_ret (res_tmp Try.results16 rfl) rfl ⟨_, rfl, Lib.hid (by simp [sameU, hsrc]), hB⟩

set_option maxRecDepth 100000 in
theorem rsameT_any (B1 B2 : Nat) (d d' : DT) (p p' : WT) (w : World) (yo : By B1 w p.oA d.ol.length p.oc d.ol) (zo : By B2 w p'.oA d'.ol.length p'.oc d'.ol) (yb : By B1 w p.bA d.bl.length p.bc d.bl) (zb : By B2 w p'.bA d'.bl.length p'.bc d'.bl)
    (hB1 : B1 ≤ w.heap.size) (hB2 : B2 ≤ w.heap.size) :
    Calls Try.prog 14 #[.agg (d.cells p), .agg (d'.cells p')] w fun e w' => ∃ q : Bool, e = .returned (.bool q) ∧ Hid (q = sameT d d') ∧ Below w.heap.size w w' := by
  have hB : Below w.heap.size w ((w.alloc (.cells (d.cells p) 26)).alloc (.cells (d'.cells p') 26)) := ((Below.refl _ _).alloc (Nat.le_refl _) _).alloc (by simp) _
  have hL : Has ((w.alloc (.cells (d.cells p) 26)).alloc (.cells (d'.cells p') 26)) w.heap.size (.cells (d.cells p) 26 (0, 0)) := (Has.newAt rfl).alloc
  have hR : Has ((w.alloc (.cells (d.cells p) 26)).alloc (.cells (d'.cells p') 26)) (w.alloc (.cells (d.cells p) 26)).heap.size (.cells (d'.cells p') 26 (0, 0)) := Has.newAt rfl
  have yo := yo.below hB hB1
  have zo := zo.below hB hB2
  have yb := yb.below hB hB1
  have zb := zb.below hB hB2
  go_enter Try.func14, Try.ntmps14
  -- CHAIN ferryman/ferrymanref06.SameTCP sameT.json
  refine wp_seq (wp_region_lit ?_)
  refine wl_box 26 _ _ rfl rfl rfl ?_
  simp only [Act.put, List.setIfInBounds_toArray, List.set_cons_zero, List.set_cons_succ]
  refine wl_box 26 _ _ rfl rfl rfl ?_
  simp only [Act.put, List.setIfInBounds_toArray, List.set_cons_zero, List.set_cons_succ]
  refine wl (.bool false) (by kernel_rfl) (by exact rfl) ?_
  simp only [Act.put, List.setIfInBounds_toArray, List.set_cons_zero, List.set_cons_succ]
  refine wpList_nil ?_
  change Code.wp _ _ _ _ _
  generalize (w.alloc (.cells (d.cells p) 26)).heap.size = g2 at hR ⊢
  generalize (w.alloc (.cells (d.cells p) 26)).alloc (.cells (d'.cells p') 26) = W at hL hR hB yo zo yb zb ⊢
  refine wp_seq (wp_region_lit ?_)
  refine wl (.pointer (some ⟨w.heap.size, 0, none⟩)) (by kernel_rfl) (by exact ex_field 0 0 (by exact rfl) Try.underlying26 (by exact rfl) rfl (by kernel_rfl) (by exact rfl)) ?_
  simp only [Act.put, List.setIfInBounds_toArray, List.set_cons_zero, List.set_cons_succ]
  refine wl (.int .u16 d.src) (by kernel_rfl) (by exact ex_cell (by exact rfl) Try.underlying22 rfl (by exact rfl) (hL.cell 0 rfl)) ?_
  simp only [Act.put, List.setIfInBounds_toArray, List.set_cons_zero, List.set_cons_succ]
  refine wl (.pointer (some ⟨g2, 0, none⟩)) (by kernel_rfl) (by exact ex_field 0 0 (by exact rfl) Try.underlying26 (by exact rfl) rfl (by kernel_rfl) (by exact rfl)) ?_
  simp only [Act.put, List.setIfInBounds_toArray, List.set_cons_zero, List.set_cons_succ]
  refine wl (.int .u16 d'.src) (by kernel_rfl) (by exact ex_cell (by exact rfl) Try.underlying22 rfl (by exact rfl) (hR.cell 0 rfl)) ?_
  simp only [Act.put, List.setIfInBounds_toArray, List.set_cons_zero, List.set_cons_succ]
  by_cases hsrc : d.src = d'.src
  · refine wl (.bool true) (by kernel_rfl) (by exact eq_int_eq (by exact rfl) (by exact rfl) (by exact rfl) hsrc) ?_
    simp only [Act.put, List.setIfInBounds_toArray, List.set_cons_zero, List.set_cons_succ]
    refine wl (.bool true) (by kernel_rfl) (by exact rfl) ?_
    simp only [Act.put, List.setIfInBounds_toArray, List.set_cons_zero, List.set_cons_succ]
    refine wl (.pointer (some ⟨w.heap.size, 1, none⟩)) (by kernel_rfl) (by exact ex_field 1 0 (by exact rfl) Try.underlying26 (by exact rfl) rfl (by kernel_rfl) (by exact rfl)) ?_
    simp only [Act.put, List.setIfInBounds_toArray, List.set_cons_zero, List.set_cons_succ]
    refine wl (.int .u16 d.dst) (by kernel_rfl) (by exact ex_cell (by exact rfl) Try.underlying22 rfl (by exact rfl) (hL.cell 1 rfl)) ?_
    simp only [Act.put, List.setIfInBounds_toArray, List.set_cons_zero, List.set_cons_succ]
    refine wl (.pointer (some ⟨g2, 1, none⟩)) (by kernel_rfl) (by exact ex_field 1 0 (by exact rfl) Try.underlying26 (by exact rfl) rfl (by kernel_rfl) (by exact rfl)) ?_
    simp only [Act.put, List.setIfInBounds_toArray, List.set_cons_zero, List.set_cons_succ]
    refine wl (.int .u16 d'.dst) (by kernel_rfl) (by exact ex_cell (by exact rfl) Try.underlying22 rfl (by exact rfl) (hR.cell 1 rfl)) ?_
    simp only [Act.put, List.setIfInBounds_toArray, List.set_cons_zero, List.set_cons_succ]
    by_cases hdst : d.dst = d'.dst
    · refine wl (.bool true) (by kernel_rfl) (by exact eq_int_eq (by exact rfl) (by exact rfl) (by exact rfl) hdst) ?_
      simp only [Act.put, List.setIfInBounds_toArray, List.set_cons_zero, List.set_cons_succ]
      refine wl (.bool true) (by kernel_rfl) (by exact rfl) ?_
      simp only [Act.put, List.setIfInBounds_toArray, List.set_cons_zero, List.set_cons_succ]
      refine wl (.bool true) (by kernel_rfl) (by exact rfl) ?_
      simp only [Act.put, List.setIfInBounds_toArray, List.set_cons_zero, List.set_cons_succ]
      refine wl (.pointer (some ⟨w.heap.size, 2, none⟩)) (by kernel_rfl) (by exact ex_field 2 0 (by exact rfl) Try.underlying26 (by exact rfl) rfl (by kernel_rfl) (by exact rfl)) ?_
      simp only [Act.put, List.setIfInBounds_toArray, List.set_cons_zero, List.set_cons_succ]
      refine wl (.int .u32 d.seq) (by kernel_rfl) (by exact ex_cell (by exact rfl) Try.underlying23 rfl (by exact rfl) (hL.cell 2 rfl)) ?_
      simp only [Act.put, List.setIfInBounds_toArray, List.set_cons_zero, List.set_cons_succ]
      refine wl (.pointer (some ⟨g2, 2, none⟩)) (by kernel_rfl) (by exact ex_field 2 0 (by exact rfl) Try.underlying26 (by exact rfl) rfl (by kernel_rfl) (by exact rfl)) ?_
      simp only [Act.put, List.setIfInBounds_toArray, List.set_cons_zero, List.set_cons_succ]
      refine wl (.int .u32 d'.seq) (by kernel_rfl) (by exact ex_cell (by exact rfl) Try.underlying23 rfl (by exact rfl) (hR.cell 2 rfl)) ?_
      simp only [Act.put, List.setIfInBounds_toArray, List.set_cons_zero, List.set_cons_succ]
      by_cases hseq : d.seq = d'.seq
      · refine wl (.bool true) (by kernel_rfl) (by exact eq_int_eq (by exact rfl) (by exact rfl) (by exact rfl) hseq) ?_
        simp only [Act.put, List.setIfInBounds_toArray, List.set_cons_zero, List.set_cons_succ]
        refine wl (.bool true) (by kernel_rfl) (by exact rfl) ?_
        simp only [Act.put, List.setIfInBounds_toArray, List.set_cons_zero, List.set_cons_succ]
        refine wl (.bool true) (by kernel_rfl) (by exact rfl) ?_
        simp only [Act.put, List.setIfInBounds_toArray, List.set_cons_zero, List.set_cons_succ]
        refine wl (.pointer (some ⟨w.heap.size, 3, none⟩)) (by kernel_rfl) (by exact ex_field 3 0 (by exact rfl) Try.underlying26 (by exact rfl) rfl (by kernel_rfl) (by exact rfl)) ?_
        simp only [Act.put, List.setIfInBounds_toArray, List.set_cons_zero, List.set_cons_succ]
        refine wl (.int .u32 d.ack) (by kernel_rfl) (by exact ex_cell (by exact rfl) Try.underlying23 rfl (by exact rfl) (hL.cell 3 rfl)) ?_
        simp only [Act.put, List.setIfInBounds_toArray, List.set_cons_zero, List.set_cons_succ]
        refine wl (.pointer (some ⟨g2, 3, none⟩)) (by kernel_rfl) (by exact ex_field 3 0 (by exact rfl) Try.underlying26 (by exact rfl) rfl (by kernel_rfl) (by exact rfl)) ?_
        simp only [Act.put, List.setIfInBounds_toArray, List.set_cons_zero, List.set_cons_succ]
        refine wl (.int .u32 d'.ack) (by kernel_rfl) (by exact ex_cell (by exact rfl) Try.underlying23 rfl (by exact rfl) (hR.cell 3 rfl)) ?_
        simp only [Act.put, List.setIfInBounds_toArray, List.set_cons_zero, List.set_cons_succ]
        by_cases hack : d.ack = d'.ack
        · refine wl (.bool true) (by kernel_rfl) (by exact eq_int_eq (by exact rfl) (by exact rfl) (by exact rfl) hack) ?_
          simp only [Act.put, List.setIfInBounds_toArray, List.set_cons_zero, List.set_cons_succ]
          refine wl (.bool true) (by kernel_rfl) (by exact rfl) ?_
          simp only [Act.put, List.setIfInBounds_toArray, List.set_cons_zero, List.set_cons_succ]
          refine wl (.bool true) (by kernel_rfl) (by exact rfl) ?_
          simp only [Act.put, List.setIfInBounds_toArray, List.set_cons_zero, List.set_cons_succ]
          refine wl (.pointer (some ⟨w.heap.size, 4, none⟩)) (by kernel_rfl) (by exact ex_field 4 0 (by exact rfl) Try.underlying26 (by exact rfl) rfl (by kernel_rfl) (by exact rfl)) ?_
          simp only [Act.put, List.setIfInBounds_toArray, List.set_cons_zero, List.set_cons_succ]
          refine wl (.int .u8 d.flags) (by kernel_rfl) (by exact ex_cell (by exact rfl) Try.underlying5 rfl (by exact rfl) (hL.cell 4 rfl)) ?_
          simp only [Act.put, List.setIfInBounds_toArray, List.set_cons_zero, List.set_cons_succ]
          refine wl (.pointer (some ⟨g2, 4, none⟩)) (by kernel_rfl) (by exact ex_field 4 0 (by exact rfl) Try.underlying26 (by exact rfl) rfl (by kernel_rfl) (by exact rfl)) ?_
          simp only [Act.put, List.setIfInBounds_toArray, List.set_cons_zero, List.set_cons_succ]
          refine wl (.int .u8 d'.flags) (by kernel_rfl) (by exact ex_cell (by exact rfl) Try.underlying5 rfl (by exact rfl) (hR.cell 4 rfl)) ?_
          simp only [Act.put, List.setIfInBounds_toArray, List.set_cons_zero, List.set_cons_succ]
          by_cases hflags : d.flags = d'.flags
          · refine wl (.bool true) (by kernel_rfl) (by exact eq_int_eq (by exact rfl) (by exact rfl) (by exact rfl) hflags) ?_
            simp only [Act.put, List.setIfInBounds_toArray, List.set_cons_zero, List.set_cons_succ]
            refine wl (.bool true) (by kernel_rfl) (by exact rfl) ?_
            simp only [Act.put, List.setIfInBounds_toArray, List.set_cons_zero, List.set_cons_succ]
            refine wl (.bool true) (by kernel_rfl) (by exact rfl) ?_
            simp only [Act.put, List.setIfInBounds_toArray, List.set_cons_zero, List.set_cons_succ]
            refine wl (.pointer (some ⟨w.heap.size, 5, none⟩)) (by kernel_rfl) (by exact ex_field 5 0 (by exact rfl) Try.underlying26 (by exact rfl) rfl (by kernel_rfl) (by exact rfl)) ?_
            simp only [Act.put, List.setIfInBounds_toArray, List.set_cons_zero, List.set_cons_succ]
            refine wl (.int .u16 d.window) (by kernel_rfl) (by exact ex_cell (by exact rfl) Try.underlying22 rfl (by exact rfl) (hL.cell 5 rfl)) ?_
            simp only [Act.put, List.setIfInBounds_toArray, List.set_cons_zero, List.set_cons_succ]
            refine wl (.pointer (some ⟨g2, 5, none⟩)) (by kernel_rfl) (by exact ex_field 5 0 (by exact rfl) Try.underlying26 (by exact rfl) rfl (by kernel_rfl) (by exact rfl)) ?_
            simp only [Act.put, List.setIfInBounds_toArray, List.set_cons_zero, List.set_cons_succ]
            refine wl (.int .u16 d'.window) (by kernel_rfl) (by exact ex_cell (by exact rfl) Try.underlying22 rfl (by exact rfl) (hR.cell 5 rfl)) ?_
            simp only [Act.put, List.setIfInBounds_toArray, List.set_cons_zero, List.set_cons_succ]
            by_cases hwindow : d.window = d'.window
            · refine wl (.bool true) (by kernel_rfl) (by exact eq_int_eq (by exact rfl) (by exact rfl) (by exact rfl) hwindow) ?_
              simp only [Act.put, List.setIfInBounds_toArray, List.set_cons_zero, List.set_cons_succ]
              refine wl (.bool true) (by kernel_rfl) (by exact rfl) ?_
              simp only [Act.put, List.setIfInBounds_toArray, List.set_cons_zero, List.set_cons_succ]
              refine wl (.bool true) (by kernel_rfl) (by exact rfl) ?_
              simp only [Act.put, List.setIfInBounds_toArray, List.set_cons_zero, List.set_cons_succ]
              refine wl (.pointer (some ⟨w.heap.size, 6, none⟩)) (by kernel_rfl) (by exact ex_field 6 0 (by exact rfl) Try.underlying26 (by exact rfl) rfl (by kernel_rfl) (by exact rfl)) ?_
              simp only [Act.put, List.setIfInBounds_toArray, List.set_cons_zero, List.set_cons_succ]
              refine wl (.int .u16 d.urgent) (by kernel_rfl) (by exact ex_cell (by exact rfl) Try.underlying22 rfl (by exact rfl) (hL.cell 6 rfl)) ?_
              simp only [Act.put, List.setIfInBounds_toArray, List.set_cons_zero, List.set_cons_succ]
              refine wl (.pointer (some ⟨g2, 6, none⟩)) (by kernel_rfl) (by exact ex_field 6 0 (by exact rfl) Try.underlying26 (by exact rfl) rfl (by kernel_rfl) (by exact rfl)) ?_
              simp only [Act.put, List.setIfInBounds_toArray, List.set_cons_zero, List.set_cons_succ]
              refine wl (.int .u16 d'.urgent) (by kernel_rfl) (by exact ex_cell (by exact rfl) Try.underlying22 rfl (by exact rfl) (hR.cell 6 rfl)) ?_
              simp only [Act.put, List.setIfInBounds_toArray, List.set_cons_zero, List.set_cons_succ]
              by_cases hurgent : d.urgent = d'.urgent
              · refine wl (.bool true) (by kernel_rfl) (by exact eq_int_eq (by exact rfl) (by exact rfl) (by exact rfl) hurgent) ?_
                simp only [Act.put, List.setIfInBounds_toArray, List.set_cons_zero, List.set_cons_succ]
                refine wl (.bool true) (by kernel_rfl) (by exact rfl) ?_
                simp only [Act.put, List.setIfInBounds_toArray, List.set_cons_zero, List.set_cons_succ]
                refine wl (.bool true) (by kernel_rfl) (by exact rfl) ?_
                simp only [Act.put, List.setIfInBounds_toArray, List.set_cons_zero, List.set_cons_succ]
                refine wl (.pointer (some ⟨w.heap.size, 7, none⟩)) (by kernel_rfl) (by exact ex_field 7 0 (by exact rfl) Try.underlying26 (by exact rfl) rfl (by kernel_rfl) (by exact rfl)) ?_
                simp only [Act.put, List.setIfInBounds_toArray, List.set_cons_zero, List.set_cons_succ]
                refine wl (.slice p.oA d.ol.length p.oc) (by kernel_rfl) (by exact ex_cell (by exact rfl) Try.underlying24 rfl (by exact rfl) (hL.cell 7 rfl)) ?_
                simp only [Act.put, List.setIfInBounds_toArray, List.set_cons_zero, List.set_cons_succ]
                refine wl (.string (strOfNums d.ol)) (by kernel_rfl) (by exact ex_conv (by exact rfl) (by exact rfl) (yo.conv (P := Try.prog) 24 9 Try.underlying24 Try.underlying5 Try.underlying9)) ?_
                simp only [Act.put, List.setIfInBounds_toArray, List.set_cons_zero, List.set_cons_succ]
                refine wl (.pointer (some ⟨g2, 7, none⟩)) (by kernel_rfl) (by exact ex_field 7 0 (by exact rfl) Try.underlying26 (by exact rfl) rfl (by kernel_rfl) (by exact rfl)) ?_
                simp only [Act.put, List.setIfInBounds_toArray, List.set_cons_zero, List.set_cons_succ]
                refine wl (.slice p'.oA d'.ol.length p'.oc) (by kernel_rfl) (by exact ex_cell (by exact rfl) Try.underlying24 rfl (by exact rfl) (hR.cell 7 rfl)) ?_
                simp only [Act.put, List.setIfInBounds_toArray, List.set_cons_zero, List.set_cons_succ]
                refine wl (.string (strOfNums d'.ol)) (by kernel_rfl) (by exact ex_conv (by exact rfl) (by exact rfl) (zo.conv (P := Try.prog) 24 9 Try.underlying24 Try.underlying5 Try.underlying9)) ?_
                simp only [Act.put, List.setIfInBounds_toArray, List.set_cons_zero, List.set_cons_succ]
                by_cases ho : d.ol = d'.ol
                · refine wl (.bool true) (by kernel_rfl) (by exact eq_str_eq (by exact rfl) (by exact rfl) (by exact rfl) (by rw [ho])) ?_
                  simp only [Act.put, List.setIfInBounds_toArray, List.set_cons_zero, List.set_cons_succ]
                  refine wl (.bool true) (by kernel_rfl) (by exact rfl) ?_
                  simp only [Act.put, List.setIfInBounds_toArray, List.set_cons_zero, List.set_cons_succ]
                  refine wl (.bool true) (by kernel_rfl) (by exact rfl) ?_
                  simp only [Act.put, List.setIfInBounds_toArray, List.set_cons_zero, List.set_cons_succ]
                  refine wl (.pointer (some ⟨w.heap.size, 8, none⟩)) (by kernel_rfl) (by exact ex_field 8 0 (by exact rfl) Try.underlying26 (by exact rfl) rfl (by kernel_rfl) (by exact rfl)) ?_
                  simp only [Act.put, List.setIfInBounds_toArray, List.set_cons_zero, List.set_cons_succ]
                  refine wl (.slice p.bA d.bl.length p.bc) (by kernel_rfl) (by exact ex_cell (by exact rfl) Try.underlying24 rfl (by exact rfl) (hL.cell 8 rfl)) ?_
                  simp only [Act.put, List.setIfInBounds_toArray, List.set_cons_zero, List.set_cons_succ]
                  refine wl (.string (strOfNums d.bl)) (by kernel_rfl) (by exact ex_conv (by exact rfl) (by exact rfl) (yb.conv (P := Try.prog) 24 9 Try.underlying24 Try.underlying5 Try.underlying9)) ?_
                  simp only [Act.put, List.setIfInBounds_toArray, List.set_cons_zero, List.set_cons_succ]
                  refine wl (.pointer (some ⟨g2, 8, none⟩)) (by kernel_rfl) (by exact ex_field 8 0 (by exact rfl) Try.underlying26 (by exact rfl) rfl (by kernel_rfl) (by exact rfl)) ?_
                  simp only [Act.put, List.setIfInBounds_toArray, List.set_cons_zero, List.set_cons_succ]
                  refine wl (.slice p'.bA d'.bl.length p'.bc) (by kernel_rfl) (by exact ex_cell (by exact rfl) Try.underlying24 rfl (by exact rfl) (hR.cell 8 rfl)) ?_
                  simp only [Act.put, List.setIfInBounds_toArray, List.set_cons_zero, List.set_cons_succ]
                  refine wl (.string (strOfNums d'.bl)) (by kernel_rfl) (by exact ex_conv (by exact rfl) (by exact rfl) (zb.conv (P := Try.prog) 24 9 Try.underlying24 Try.underlying5 Try.underlying9)) ?_
                  simp only [Act.put, List.setIfInBounds_toArray, List.set_cons_zero, List.set_cons_succ]
                  by_cases hb : d.bl = d'.bl
                  · refine wl (.bool true) (by kernel_rfl) (by exact eq_str_eq (by exact rfl) (by exact rfl) (by exact rfl) (by rw [hb])) ?_
                    simp only [Act.put, List.setIfInBounds_toArray, List.set_cons_zero, List.set_cons_succ]
                    refine wl (.bool true) (by kernel_rfl) (by exact rfl) ?_
                    simp only [Act.put, List.setIfInBounds_toArray, List.set_cons_zero, List.set_cons_succ]
                    refine wl (.bool true) (by kernel_rfl) (by exact rfl) ?_
                    simp only [Act.put, List.setIfInBounds_toArray, List.set_cons_zero, List.set_cons_succ]
                    refine wpList_nil ?_
                    change Code.wp _ Code.ret _ _ _
                    refine wp_ret ?_
                    exact bodyPost_ret (res_tmp Try.results14 rfl) rfl ⟨_, rfl, Lib.hid (by simp [sameT, hsrc, hdst, hseq, hack, hflags, hwindow, hurgent, ho, hb]), hB⟩
                  · refine wl (.bool false) (by kernel_rfl) (by exact eq_str_ne (by exact rfl) (by exact rfl) (by exact rfl) (by rw [strOfNums_beq yb.rng zb.rng, decide_eq_false hb])) ?_
                    simp only [Act.put, List.setIfInBounds_toArray, List.set_cons_zero, List.set_cons_succ]
                    refine skip_ok (t' := #[.agg (d.cells p), .agg (d'.cells p'), .pointer (some ⟨w.heap.size, 0, none⟩), .pointer (some ⟨g2, 0, none⟩), .bool false, .pointer (some ⟨w.heap.size, 0, none⟩), .int .u16 d.src, .pointer (some ⟨g2, 0, none⟩), .int .u16 d'.src, .bool true, .bool true, .pointer (some ⟨w.heap.size, 1, none⟩), .int .u16 d.dst, .pointer (some ⟨g2, 1, none⟩), .int .u16 d'.dst, .bool true, .bool true, .bool true, .pointer (some ⟨w.heap.size, 2, none⟩), .int .u32 d.seq, .pointer (some ⟨g2, 2, none⟩), .int .u32 d'.seq, .bool true, .bool true, .bool true, .pointer (some ⟨w.heap.size, 3, none⟩), .int .u32 d.ack, .pointer (some ⟨g2, 3, none⟩), .int .u32 d'.ack, .bool true, .bool true, .bool true, .pointer (some ⟨w.heap.size, 4, none⟩), .int .u8 d.flags, .pointer (some ⟨g2, 4, none⟩), .int .u8 d'.flags, .bool true, .bool true, .bool true, .pointer (some ⟨w.heap.size, 5, none⟩), .int .u16 d.window, .pointer (some ⟨g2, 5, none⟩), .int .u16 d'.window, .bool true, .bool true, .bool true, .pointer (some ⟨w.heap.size, 6, none⟩), .int .u16 d.urgent, .pointer (some ⟨g2, 6, none⟩), .int .u16 d'.urgent, .bool true, .bool true, .bool true, .pointer (some ⟨w.heap.size, 7, none⟩), .slice p.oA d.ol.length p.oc, .string (strOfNums d.ol), .pointer (some ⟨g2, 7, none⟩), .slice p'.oA d'.ol.length p'.oc, .string (strOfNums d'.ol), .bool true, .bool true, .bool true, .pointer (some ⟨w.heap.size, 8, none⟩), .slice p.bA d.bl.length p.bc, .string (strOfNums d.bl), .pointer (some ⟨g2, 8, none⟩), .slice p'.bA d'.bl.length p'.bc, .string (strOfNums d'.bl), .bool false, .bool false]) _ _ (by kernel_rfl) ?_
                    change Code.wp _ Code.ret _ _ _
                    refine wp_ret ?_
                    exact bodyPost_ret (res_tmp Try.results14 rfl) rfl ⟨_, rfl, Lib.hid (by simp [sameT, hsrc, hdst, hseq, hack, hflags, hwindow, hurgent, ho, hb]), hB⟩
                · refine wl (.bool false) (by kernel_rfl) (by exact eq_str_ne (by exact rfl) (by exact rfl) (by exact rfl) (by rw [strOfNums_beq yo.rng zo.rng, decide_eq_false ho])) ?_
                  simp only [Act.put, List.setIfInBounds_toArray, List.set_cons_zero, List.set_cons_succ]
                  refine skip_ok (t' := #[.agg (d.cells p), .agg (d'.cells p'), .pointer (some ⟨w.heap.size, 0, none⟩), .pointer (some ⟨g2, 0, none⟩), .bool false, .pointer (some ⟨w.heap.size, 0, none⟩), .int .u16 d.src, .pointer (some ⟨g2, 0, none⟩), .int .u16 d'.src, .bool true, .bool true, .pointer (some ⟨w.heap.size, 1, none⟩), .int .u16 d.dst, .pointer (some ⟨g2, 1, none⟩), .int .u16 d'.dst, .bool true, .bool true, .bool true, .pointer (some ⟨w.heap.size, 2, none⟩), .int .u32 d.seq, .pointer (some ⟨g2, 2, none⟩), .int .u32 d'.seq, .bool true, .bool true, .bool true, .pointer (some ⟨w.heap.size, 3, none⟩), .int .u32 d.ack, .pointer (some ⟨g2, 3, none⟩), .int .u32 d'.ack, .bool true, .bool true, .bool true, .pointer (some ⟨w.heap.size, 4, none⟩), .int .u8 d.flags, .pointer (some ⟨g2, 4, none⟩), .int .u8 d'.flags, .bool true, .bool true, .bool true, .pointer (some ⟨w.heap.size, 5, none⟩), .int .u16 d.window, .pointer (some ⟨g2, 5, none⟩), .int .u16 d'.window, .bool true, .bool true, .bool true, .pointer (some ⟨w.heap.size, 6, none⟩), .int .u16 d.urgent, .pointer (some ⟨g2, 6, none⟩), .int .u16 d'.urgent, .bool true, .bool true, .bool true, .pointer (some ⟨w.heap.size, 7, none⟩), .slice p.oA d.ol.length p.oc, .string (strOfNums d.ol), .pointer (some ⟨g2, 7, none⟩), .slice p'.oA d'.ol.length p'.oc, .string (strOfNums d'.ol), .bool false, .bool false, .bool false, undef, undef, undef, undef, undef, undef, undef, .bool false]) _ _ (by kernel_rfl) ?_
                  change Code.wp _ Code.ret _ _ _
                  refine wp_ret ?_
                  exact bodyPost_ret (res_tmp Try.results14 rfl) rfl ⟨_, rfl, Lib.hid (by simp [sameT, hsrc, hdst, hseq, hack, hflags, hwindow, hurgent, ho]), hB⟩
              · refine wl (.bool false) (by kernel_rfl) (by exact eq_int_ne (by exact rfl) (by exact rfl) (by exact rfl) hurgent) ?_
                simp only [Act.put, List.setIfInBounds_toArray, List.set_cons_zero, List.set_cons_succ]
                refine skip_ok (t' := #[.agg (d.cells p), .agg (d'.cells p'), .pointer (some ⟨w.heap.size, 0, none⟩), .pointer (some ⟨g2, 0, none⟩), .bool false, .pointer (some ⟨w.heap.size, 0, none⟩), .int .u16 d.src, .pointer (some ⟨g2, 0, none⟩), .int .u16 d'.src, .bool true, .bool true, .pointer (some ⟨w.heap.size, 1, none⟩), .int .u16 d.dst, .pointer (some ⟨g2, 1, none⟩), .int .u16 d'.dst, .bool true, .bool true, .bool true, .pointer (some ⟨w.heap.size, 2, none⟩), .int .u32 d.seq, .pointer (some ⟨g2, 2, none⟩), .int .u32 d'.seq, .bool true, .bool true, .bool true, .pointer (some ⟨w.heap.size, 3, none⟩), .int .u32 d.ack, .pointer (some ⟨g2, 3, none⟩), .int .u32 d'.ack, .bool true, .bool true, .bool true, .pointer (some ⟨w.heap.size, 4, none⟩), .int .u8 d.flags, .pointer (some ⟨g2, 4, none⟩), .int .u8 d'.flags, .bool true, .bool true, .bool true, .pointer (some ⟨w.heap.size, 5, none⟩), .int .u16 d.window, .pointer (some ⟨g2, 5, none⟩), .int .u16 d'.window, .bool true, .bool true, .bool true, .pointer (some ⟨w.heap.size, 6, none⟩), .int .u16 d.urgent, .pointer (some ⟨g2, 6, none⟩), .int .u16 d'.urgent, .bool false, .bool false, .bool false, undef, undef, undef, undef, undef, undef, undef, .bool false, .bool false, undef, undef, undef, undef, undef, undef, undef, .bool false]) _ _ (by kernel_rfl) ?_
                change Code.wp _ Code.ret _ _ _
                refine wp_ret ?_
                exact bodyPost_ret (res_tmp Try.results14 rfl) rfl ⟨_, rfl, Lib.hid (by simp [sameT, hsrc, hdst, hseq, hack, hflags, hwindow, hurgent]), hB⟩
            · refine wl (.bool false) (by kernel_rfl) (by exact eq_int_ne (by exact rfl) (by exact rfl) (by exact rfl) hwindow) ?_
              simp only [Act.put, List.setIfInBounds_toArray, List.set_cons_zero, List.set_cons_succ]
              refine skip_ok (t' := #[.agg (d.cells p), .agg (d'.cells p'), .pointer (some ⟨w.heap.size, 0, none⟩), .pointer (some ⟨g2, 0, none⟩), .bool false, .pointer (some ⟨w.heap.size, 0, none⟩), .int .u16 d.src, .pointer (some ⟨g2, 0, none⟩), .int .u16 d'.src, .bool true, .bool true, .pointer (some ⟨w.heap.size, 1, none⟩), .int .u16 d.dst, .pointer (some ⟨g2, 1, none⟩), .int .u16 d'.dst, .bool true, .bool true, .bool true, .pointer (some ⟨w.heap.size, 2, none⟩), .int .u32 d.seq, .pointer (some ⟨g2, 2, none⟩), .int .u32 d'.seq, .bool true, .bool true, .bool true, .pointer (some ⟨w.heap.size, 3, none⟩), .int .u32 d.ack, .pointer (some ⟨g2, 3, none⟩), .int .u32 d'.ack, .bool true, .bool true, .bool true, .pointer (some ⟨w.heap.size, 4, none⟩), .int .u8 d.flags, .pointer (some ⟨g2, 4, none⟩), .int .u8 d'.flags, .bool true, .bool true, .bool true, .pointer (some ⟨w.heap.size, 5, none⟩), .int .u16 d.window, .pointer (some ⟨g2, 5, none⟩), .int .u16 d'.window, .bool false, .bool false, .bool false, undef, undef, undef, undef, undef, .bool false, .bool false, undef, undef, undef, undef, undef, undef, undef, .bool false, .bool false, undef, undef, undef, undef, undef, undef, undef, .bool false]) _ _ (by kernel_rfl) ?_
              change Code.wp _ Code.ret _ _ _
              refine wp_ret ?_
              exact bodyPost_ret (res_tmp Try.results14 rfl) rfl ⟨_, rfl, Lib.hid (by simp [sameT, hsrc, hdst, hseq, hack, hflags, hwindow]), hB⟩
          · refine wl (.bool false) (by kernel_rfl) (by exact eq_int_ne (by exact rfl) (by exact rfl) (by exact rfl) hflags) ?_
            simp only [Act.put, List.setIfInBounds_toArray, List.set_cons_zero, List.set_cons_succ]
            refine skip_ok (t' := #[.agg (d.cells p), .agg (d'.cells p'), .pointer (some ⟨w.heap.size, 0, none⟩), .pointer (some ⟨g2, 0, none⟩), .bool false, .pointer (some ⟨w.heap.size, 0, none⟩), .int .u16 d.src, .pointer (some ⟨g2, 0, none⟩), .int .u16 d'.src, .bool true, .bool true, .pointer (some ⟨w.heap.size, 1, none⟩), .int .u16 d.dst, .pointer (some ⟨g2, 1, none⟩), .int .u16 d'.dst, .bool true, .bool true, .bool true, .pointer (some ⟨w.heap.size, 2, none⟩), .int .u32 d.seq, .pointer (some ⟨g2, 2, none⟩), .int .u32 d'.seq, .bool true, .bool true, .bool true, .pointer (some ⟨w.heap.size, 3, none⟩), .int .u32 d.ack, .pointer (some ⟨g2, 3, none⟩), .int .u32 d'.ack, .bool true, .bool true, .bool true, .pointer (some ⟨w.heap.size, 4, none⟩), .int .u8 d.flags, .pointer (some ⟨g2, 4, none⟩), .int .u8 d'.flags, .bool false, .bool false, .bool false, undef, undef, undef, undef, undef, .bool false, .bool false, undef, undef, undef, undef, undef, .bool false, .bool false, undef, undef, undef, undef, undef, undef, undef, .bool false, .bool false, undef, undef, undef, undef, undef, undef, undef, .bool false]) _ _ (by kernel_rfl) ?_
            change Code.wp _ Code.ret _ _ _
            refine wp_ret ?_
            exact bodyPost_ret (res_tmp Try.results14 rfl) rfl ⟨_, rfl, Lib.hid (by simp [sameT, hsrc, hdst, hseq, hack, hflags]), hB⟩
        · refine wl (.bool false) (by kernel_rfl) (by exact eq_int_ne (by exact rfl) (by exact rfl) (by exact rfl) hack) ?_
          simp only [Act.put, List.setIfInBounds_toArray, List.set_cons_zero, List.set_cons_succ]
          refine skip_ok (t' := #[.agg (d.cells p), .agg (d'.cells p'), .pointer (some ⟨w.heap.size, 0, none⟩), .pointer (some ⟨g2, 0, none⟩), .bool false, .pointer (some ⟨w.heap.size, 0, none⟩), .int .u16 d.src, .pointer (some ⟨g2, 0, none⟩), .int .u16 d'.src, .bool true, .bool true, .pointer (some ⟨w.heap.size, 1, none⟩), .int .u16 d.dst, .pointer (some ⟨g2, 1, none⟩), .int .u16 d'.dst, .bool true, .bool true, .bool true, .pointer (some ⟨w.heap.size, 2, none⟩), .int .u32 d.seq, .pointer (some ⟨g2, 2, none⟩), .int .u32 d'.seq, .bool true, .bool true, .bool true, .pointer (some ⟨w.heap.size, 3, none⟩), .int .u32 d.ack, .pointer (some ⟨g2, 3, none⟩), .int .u32 d'.ack, .bool false, .bool false, .bool false, undef, undef, undef, undef, undef, .bool false, .bool false, undef, undef, undef, undef, undef, .bool false, .bool false, undef, undef, undef, undef, undef, .bool false, .bool false, undef, undef, undef, undef, undef, undef, undef, .bool false, .bool false, undef, undef, undef, undef, undef, undef, undef, .bool false]) _ _ (by kernel_rfl) ?_
          change Code.wp _ Code.ret _ _ _
          refine wp_ret ?_
          exact bodyPost_ret (res_tmp Try.results14 rfl) rfl ⟨_, rfl, Lib.hid (by simp [sameT, hsrc, hdst, hseq, hack]), hB⟩
      · refine wl (.bool false) (by kernel_rfl) (by exact eq_int_ne (by exact rfl) (by exact rfl) (by exact rfl) hseq) ?_
        simp only [Act.put, List.setIfInBounds_toArray, List.set_cons_zero, List.set_cons_succ]
        refine skip_ok (t' := #[.agg (d.cells p), .agg (d'.cells p'), .pointer (some ⟨w.heap.size, 0, none⟩), .pointer (some ⟨g2, 0, none⟩), .bool false, .pointer (some ⟨w.heap.size, 0, none⟩), .int .u16 d.src, .pointer (some ⟨g2, 0, none⟩), .int .u16 d'.src, .bool true, .bool true, .pointer (some ⟨w.heap.size, 1, none⟩), .int .u16 d.dst, .pointer (some ⟨g2, 1, none⟩), .int .u16 d'.dst, .bool true, .bool true, .bool true, .pointer (some ⟨w.heap.size, 2, none⟩), .int .u32 d.seq, .pointer (some ⟨g2, 2, none⟩), .int .u32 d'.seq, .bool false, .bool false, .bool false, undef, undef, undef, undef, undef, .bool false, .bool false, undef, undef, undef, undef, undef, .bool false, .bool false, undef, undef, undef, undef, undef, .bool false, .bool false, undef, undef, undef, undef, undef, .bool false, .bool false, undef, undef, undef, undef, undef, undef, undef, .bool false, .bool false, undef, undef, undef, undef, undef, undef, undef, .bool false]) _ _ (by kernel_rfl) ?_
        change Code.wp _ Code.ret _ _ _
        refine wp_ret ?_
        exact bodyPost_ret (res_tmp Try.results14 rfl) rfl ⟨_, rfl, Lib.hid (by simp [sameT, hsrc, hdst, hseq]), hB⟩
    · refine wl (.bool false) (by kernel_rfl) (by exact eq_int_ne (by exact rfl) (by exact rfl) (by exact rfl) hdst) ?_
      simp only [Act.put, List.setIfInBounds_toArray, List.set_cons_zero, List.set_cons_succ]
      refine skip_ok (t' := #[.agg (d.cells p), .agg (d'.cells p'), .pointer (some ⟨w.heap.size, 0, none⟩), .pointer (some ⟨g2, 0, none⟩), .bool false, .pointer (some ⟨w.heap.size, 0, none⟩), .int .u16 d.src, .pointer (some ⟨g2, 0, none⟩), .int .u16 d'.src, .bool true, .bool true, .pointer (some ⟨w.heap.size, 1, none⟩), .int .u16 d.dst, .pointer (some ⟨g2, 1, none⟩), .int .u16 d'.dst, .bool false, .bool false, .bool false, undef, undef, undef, undef, undef, .bool false, .bool false, undef, undef, undef, undef, undef, .bool false, .bool false, undef, undef, undef, undef, undef, .bool false, .bool false, undef, undef, undef, undef, undef, .bool false, .bool false, undef, undef, undef, undef, undef, .bool false, .bool false, undef, undef, undef, undef, undef, undef, undef, .bool false, .bool false, undef, undef, undef, undef, undef, undef, undef, .bool false]) _ _ (by kernel_rfl) ?_
      change Code.wp _ Code.ret _ _ _
      refine wp_ret ?_
      exact bodyPost_ret (res_tmp Try.results14 rfl) rfl ⟨_, rfl, Lib.hid (by simp [sameT, hsrc, hdst]), hB⟩
  · refine wl (.bool false) (by kernel_rfl) (by exact eq_int_ne (by exact rfl) (by exact rfl) (by exact rfl) hsrc) ?_
    simp only [Act.put, List.setIfInBounds_toArray, List.set_cons_zero, List.set_cons_succ]
    refine skip_ok (t' := #[.agg (d.cells p), .agg (d'.cells p'), .pointer (some ⟨w.heap.size, 0, none⟩), .pointer (some ⟨g2, 0, none⟩), .bool false, .pointer (some ⟨w.heap.size, 0, none⟩), .int .u16 d.src, .pointer (some ⟨g2, 0, none⟩), .int .u16 d'.src, .bool false, .bool false, undef, undef, undef, undef, undef, .bool false, .bool false, undef, undef, undef, undef, undef, .bool false, .bool false, undef, undef, undef, undef, undef, .bool false, .bool false, undef, undef, undef, undef, undef, .bool false, .bool false, undef, undef, undef, undef, undef, .bool false, .bool false, undef, undef, undef, undef, undef, .bool false, .bool false, undef, undef, undef, undef, undef, undef, undef, .bool false, .bool false, undef, undef, undef, undef, undef, undef, undef, .bool false]) _ _ (by kernel_rfl) ?_
    change Code.wp _ Code.ret _ _ _
    refine wp_ret ?_
    exact bodyPost_ret (res_tmp Try.results14 rfl) rfl ⟨_, rfl, Lib.hid (by simp [sameT, hsrc]), hB⟩
end Go.Proofs.Ytaobnbjkhgcmlaa
