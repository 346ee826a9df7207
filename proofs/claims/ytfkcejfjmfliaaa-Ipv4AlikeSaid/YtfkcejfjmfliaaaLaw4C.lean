/-
  The walk of Ipv4Alike.
-/
import Derived.Test.YtfkcejfjmfliaaaLaw4A
import Derived.Test.YtfkcejfjmfliaaaIp4G
namespace Go.Proofs.Ytfkcejfjmfliaaa
open Go.RowKit Go.Shelf

/-- what the last region of Ipv4Alike leans on -/
structure S4A (d d' D : D4) (p p' p1 p2 : W4) (g5 g7 N : Nat) (w w' : World) : Prop where
  h1 : Has w' w.heap.size (.cells (d.cells p) 27 (0, 0))
  h2 : Has w' (w.heap.size + 1) (.cells (d'.cells p') 27 (0, 0))
  h5 : Has w' g5 (.cells (D.cells p1) 27 (0, 0))
  h7 : Has w' g7 (.cells (D.cells p2) 27 (0, 0))
  r1 : Rd4 N w' D p1
  r2 : Rd4 N w' D p2
  big : N ≤ w'.heap.size
  bel : Below w.heap.size w w'
theorem S4A.keep {d d' D : D4} {p p' p1 p2 : W4} {g5 g7 N : Nat} {w w' w'' : World} (h : S4A d d' D p p' p1 p2 g5 g7 N w w') (hb : Below w'.heap.size w' w'') : S4A d d' D p p' p1 p2 g5 g7 N w w'' :=
  ⟨h.h1.below hb h.h1.lt, h.h2.below hb h.h2.lt, h.h5.below hb h.h5.lt, h.h7.below hb h.h7.lt, h.r1.below hb h.big, h.r2.below hb h.big, Nat.le_trans h.big hb.size, h.bel.trans (hb.mono h.bel.size)⟩

set_option maxRecDepth 100000 in
set_option maxHeartbeats 1000000 in
theorem alike_walk (d : D4) (p : W4) (d' : D4) (p' : W4) (w : World) (hR : Rd4 w.heap.size w d p) (hR' : Rd4 w.heap.size w d' p') :
    Calls Try.prog 4 #[.agg (d.cells p), .agg (d'.cells p')] w fun e w' => e = .returned (.bool true) ∧ Below w.heap.size w w' := by
  have hB : Below w.heap.size w ((w.alloc (.cells (d.cells p) 27)).alloc (.cells (d'.cells p') 27)) := ((Below.refl _ _).alloc (Nat.le_refl _) _).alloc (by simp) _
  have hH1 : Has ((w.alloc (.cells (d.cells p) 27)).alloc (.cells (d'.cells p') 27)) w.heap.size (.cells (d.cells p) 27 (0, 0)) := (Has.newAt rfl).alloc
  have hH2 : Has ((w.alloc (.cells (d.cells p) 27)).alloc (.cells (d'.cells p') 27)) (w.heap.size + 1) (.cells (d'.cells p') 27 (0, 0)) := Has.newAt (by simp)
  have hc := Lib.hid (hop_any d p ((w.alloc (.cells (d.cells p) 27)).alloc (.cells (d'.cells p') 27)) ((hR.below hB (Nat.le_refl _)).more hB.size))
  obtain ⟨D, hD⟩ : ∃ D, d.hop = D := ⟨_, rfl⟩
  obtain ⟨s, hs⟩ : ∃ s, d.hopErr = s := ⟨_, rfl⟩
  have hDH := Lib.hid hD
  have hsH := Lib.hid hs
  have hc := hc.out
  rw [hD, hs] at hc
  have hc := Lib.hid hc
  clear hD hs
  go_enter Try.func4, Try.ntmps4
  go_wp2_with (refine wpList_load_row rfl 27 (.tmp 2) rfl w.heap.size rfl 27 (d.cells p) (0, 0) _ hH1 Try.underlying27 rfl v4_info ?_)
  refine hc.out.mono ?_
  rintro e w1 ⟨⟨p1, s1, rfl, hs1, r1⟩, hb1⟩
  obtain rfl : s1 = s := hs1.out
  have hZ : Has (w1.alloc (.cells #[.int .u8 0, .int .u16 0, .bool false, .bool false, .int .i64 0, .int .u8 0, .int .u8 0, .int .u8 0, .int .u8 0, .int .u8 0, .int .u8 0, .int .u8 0, .int .u8 0, .int .u8 0, .int .u8 0, .slice none 0 0, .slice none 0 0] 27)) w1.heap.size (.cells #[.int .u8 0, .int .u16 0, .bool false, .bool false, .int .i64 0, .int .u8 0, .int .u8 0, .int .u8 0, .int .u8 0, .int .u8 0, .int .u8 0, .int .u8 0, .int .u8 0, .int .u8 0, .int .u8 0, .slice none 0 0, .slice none 0 0] 27 (0, 0)) := Has.newAt rfl
  have hX : Below w1.heap.size w1 ((w1.alloc (.cells #[.int .u8 0, .int .u16 0, .bool false, .bool false, .int .i64 0, .int .u8 0, .int .u8 0, .int .u8 0, .int .u8 0, .int .u8 0, .int .u8 0, .int .u8 0, .int .u8 0, .int .u8 0, .int .u8 0, .slice none 0 0, .slice none 0 0] 27)).setRow w1.heap.size (D.cells p1)) := ((Below.refl _ _).alloc (Nat.le_refl _) (.cells #[.int .u8 0, .int .u16 0, .bool false, .bool false, .int .i64 0, .int .u8 0, .int .u8 0, .int .u8 0, .int .u8 0, .int .u8 0, .int .u8 0, .int .u8 0, .int .u8 0, .int .u8 0, .int .u8 0, .slice none 0 0, .slice none 0 0] 27)).trans below_setRow'
  have hG5 : Has ((w1.alloc (.cells #[.int .u8 0, .int .u16 0, .bool false, .bool false, .int .i64 0, .int .u8 0, .int .u8 0, .int .u8 0, .int .u8 0, .int .u8 0, .int .u8 0, .int .u8 0, .int .u8 0, .int .u8 0, .int .u8 0, .slice none 0 0, .slice none 0 0] 27)).setRow w1.heap.size (D.cells p1)) w1.heap.size (.cells (D.cells p1) 27 (0, 0)) := hZ.setRow_same
  have hB1 := hB.trans (hb1.mono hB.size)
  have hB1 := hB1.trans (hX.mono hB1.size)
  have hH1 := (hH1.below hb1 hH1.lt).below hX (Nat.lt_of_lt_of_le hH1.lt hb1.size)
  have hH2 := (hH2.below hb1 hH2.lt).below hX (Nat.lt_of_lt_of_le hH2.lt hb1.size)
  have r1 := (r1.below hX (Nat.le_refl _)).more hX.size
  have hc2 := Lib.hid (rhop_any d p ((w1.alloc (.cells #[.int .u8 0, .int .u16 0, .bool false, .bool false, .int .i64 0, .int .u8 0, .int .u8 0, .int .u8 0, .int .u8 0, .int .u8 0, .int .u8 0, .int .u8 0, .int .u8 0, .int .u8 0, .int .u8 0, .slice none 0 0, .slice none 0 0] 27)).setRow w1.heap.size (D.cells p1)) ((hR.below hB1 (Nat.le_refl _)).more hB1.size))
  clear hc hs1 hb1 hB hX
  go_wp2_with (first | (refine wpList_store_row rfl 27 (.tmp 5) (.tmp 12) rfl w1.heap.size _ rfl rfl 27 _ hZ v4_info rfl (by simp [D4.cells, Value.oneCell']) ?_) | (refine wpList_load_row rfl 27 (.tmp 2) rfl w.heap.size rfl 27 (d.cells p) (0, 0) _ hH1 Try.underlying27 rfl v4_info ?_))
  clear hZ
  refine hc2.out.mono ?_
  rw [hDH.out, hsH.out]
  rintro e w2 ⟨⟨p2, s2, rfl, hs2, r2⟩, hb2⟩
  obtain rfl : s2 = s1 := hs2.out
  have hZ : Has (w2.alloc (.cells #[.int .u8 0, .int .u16 0, .bool false, .bool false, .int .i64 0, .int .u8 0, .int .u8 0, .int .u8 0, .int .u8 0, .int .u8 0, .int .u8 0, .int .u8 0, .int .u8 0, .int .u8 0, .int .u8 0, .slice none 0 0, .slice none 0 0] 27)) w2.heap.size (.cells #[.int .u8 0, .int .u16 0, .bool false, .bool false, .int .i64 0, .int .u8 0, .int .u8 0, .int .u8 0, .int .u8 0, .int .u8 0, .int .u8 0, .int .u8 0, .int .u8 0, .int .u8 0, .int .u8 0, .slice none 0 0, .slice none 0 0] 27 (0, 0)) := Has.newAt rfl
  have hX : Below w2.heap.size w2 ((w2.alloc (.cells #[.int .u8 0, .int .u16 0, .bool false, .bool false, .int .i64 0, .int .u8 0, .int .u8 0, .int .u8 0, .int .u8 0, .int .u8 0, .int .u8 0, .int .u8 0, .int .u8 0, .int .u8 0, .int .u8 0, .slice none 0 0, .slice none 0 0] 27)).setRow w2.heap.size (D.cells p2)) := ((Below.refl _ _).alloc (Nat.le_refl _) (.cells #[.int .u8 0, .int .u16 0, .bool false, .bool false, .int .i64 0, .int .u8 0, .int .u8 0, .int .u8 0, .int .u8 0, .int .u8 0, .int .u8 0, .int .u8 0, .int .u8 0, .int .u8 0, .int .u8 0, .slice none 0 0, .slice none 0 0] 27)).trans below_setRow'
  have hG7 : Has ((w2.alloc (.cells #[.int .u8 0, .int .u16 0, .bool false, .bool false, .int .i64 0, .int .u8 0, .int .u8 0, .int .u8 0, .int .u8 0, .int .u8 0, .int .u8 0, .int .u8 0, .int .u8 0, .int .u8 0, .int .u8 0, .slice none 0 0, .slice none 0 0] 27)).setRow w2.heap.size (D.cells p2)) w2.heap.size (.cells (D.cells p2) 27 (0, 0)) := hZ.setRow_same
  have hB2 := hB1.trans (hb2.mono hB1.size)
  have hB2 := hB2.trans (hX.mono hB2.size)
  have hS := Lib.hid (S4A.mk ((hH1.below hb2 hH1.lt).below hX (Nat.lt_of_lt_of_le hH1.lt hb2.size)) ((hH2.below hb2 hH2.lt).below hX (Nat.lt_of_lt_of_le hH2.lt hb2.size)) ((hG5.below hb2 hG5.lt).below hX (Nat.lt_of_lt_of_le hG5.lt hb2.size)) hG7
    (((r1.below hb2 (Nat.le_refl _)).more hb2.size).below hX (Nat.le_refl _)) (r2.below hX (Nat.le_refl _)) hX.size hB2)
  clear hc2 hs2 hb2 hB1 hB2 hX hG5 hG7 hH1 hH2 r1 r2 hDH hsH
  go_wp2_with (refine wpList_store_row rfl 27 (.tmp 7) (.tmp 17) rfl w2.heap.size _ rfl rfl 27 _ hZ v4_info rfl (by simp [D4.cells, Value.oneCell']) ?_)
  clear hZ
  have hS' := hS.out
  clear hS
  generalize w1.heap.size = g5 at hS' ⊢
  generalize w2.heap.size = g7 at hS' ⊢
  generalize (w2.alloc (.cells #[.int .u8 0, .int .u16 0, .bool false, .bool false, .int .i64 0, .int .u8 0, .int .u8 0, .int .u8 0, .int .u8 0, .int .u8 0, .int .u8 0, .int .u8 0, .int .u8 0, .int .u8 0, .int .u8 0, .slice none 0 0, .slice none 0 0] 27)).setRow g7 (D.cells p2) = W4 at hS' ⊢
  refine wp_region_held_drew (S := S4A d d' D p p' p1 p2 g5 g7 g7 w) (by kernel_rfl) (hS'.keep (below_drew _ _)) (fun hS => ?_)
  clear hS'
  -- REGION 3
  refine tk (i := 0) (.agg (d.cells p)) hS rfl (by kernel_rfl) (by kernel_rfl) (by kernel_rfl) (fun _ _ _ h => h) (by kernel_rfl) (by intro _ h; exact ex_load (by exact rfl) (by exact rfl) (h.h1.load (P := Try.prog) 27 Try.underlying27 rfl v4_info)) ?_
  simp only [Act.put, List.setIfInBounds_toArray, List.set_cons_zero, List.set_cons_succ]
  refine tk (i := 1) (.agg (d'.cells p')) hS rfl (by kernel_rfl) (by kernel_rfl) (by kernel_rfl) (fun _ _ _ h => h) (by kernel_rfl) (by intro _ h; exact ex_load (by exact rfl) (by exact rfl) (h.h2.load (P := Try.prog) 27 Try.underlying27 rfl v4_info)) ?_
  simp only [Act.put, List.setIfInBounds_toArray, List.set_cons_zero, List.set_cons_succ]
  refine tk (i := 3) (.agg (d.cells p)) hS rfl (by kernel_rfl) (by kernel_rfl) (by kernel_rfl) (fun _ _ _ h => h) (by kernel_rfl) (by intro _ h; exact ex_load (by exact rfl) (by exact rfl) (h.h1.load (P := Try.prog) 27 Try.underlying27 rfl v4_info)) ?_
  simp only [Act.put, List.setIfInBounds_toArray, List.set_cons_zero, List.set_cons_succ]
  refine tk (i := 4) (.agg (d'.cells p')) hS rfl (by kernel_rfl) (by kernel_rfl) (by kernel_rfl) (fun _ _ _ h => h) (by kernel_rfl) (by intro _ h; exact ex_load (by exact rfl) (by exact rfl) (h.h2.load (P := Try.prog) 27 Try.underlying27 rfl v4_info)) ?_
  simp only [Act.put, List.setIfInBounds_toArray, List.set_cons_zero, List.set_cons_succ]
  refine tk_call (i := 2) (.bool (same4 d d')) (by kernel_rfl) rfl (by kernel_rfl) (by exact ex_call (by exact rfl) Try.func20 (by kernel_rfl) (by kernel_rfl) (by simp only [List.map_toArray, List.map_cons, List.map_nil] <;> rfl)) (by refine (same4_any _ _ d d' p p' _ (hR.opt.below hS.bel (Nat.le_refl _)) (hR'.opt.below hS.bel (Nat.le_refl _)) (hR.body.below hS.bel (Nat.le_refl _)) (hR'.body.below hS.bel (Nat.le_refl _)) hS.bel.size hS.bel.size).mono fun e w' g => ?_; obtain ⟨x, rfl, hx, hb⟩ := g; exact ⟨by rw [hx.out], hS.keep hb⟩) ?_
  intro W4 hS4
  simp only [Act.put, List.setIfInBounds_toArray, List.set_cons_zero, List.set_cons_succ]
  refine tk_call (i := 5) (.bool (same4 d d')) (by kernel_rfl) rfl (by kernel_rfl) (by exact ex_call (by exact rfl) Try.func21 (by kernel_rfl) (by kernel_rfl) (by simp only [List.map_toArray, List.map_cons, List.map_nil] <;> rfl)) (by refine (rsame4_any _ _ d d' p p' _ (hR.opt.below hS4.bel (Nat.le_refl _)) (hR'.opt.below hS4.bel (Nat.le_refl _)) (hR.body.below hS4.bel (Nat.le_refl _)) (hR'.body.below hS4.bel (Nat.le_refl _)) hS4.bel.size hS4.bel.size).mono fun e w' g => ?_; obtain ⟨x, rfl, hx, hb⟩ := g; exact ⟨by rw [hx.out], hS4.keep hb⟩) ?_
  intro W5 hS5
  simp only [Act.put, List.setIfInBounds_toArray, List.set_cons_zero, List.set_cons_succ]
  refine tk (i := 6) (.bool true) hS5 rfl (by kernel_rfl) (by kernel_rfl) (by kernel_rfl) (fun _ _ _ h => h) (by kernel_rfl) (by intro _ _; exact eq_bool_self (b := (same4 d d')) (by exact rfl) Try.underlying4 (by exact rfl) (by exact rfl)) ?_
  simp only [Act.put, List.setIfInBounds_toArray, List.set_cons_zero, List.set_cons_succ]
  refine tk (i := 7) (.bool true) hS5 rfl (by kernel_rfl) (by kernel_rfl) (by kernel_rfl) (fun _ _ _ h => h) (by kernel_rfl) (by intro _ _; exact rfl) ?_
  simp only [Act.put, List.setIfInBounds_toArray, List.set_cons_zero, List.set_cons_succ]
  refine tk (i := 8) (.agg (d.cells p)) hS5 rfl (by kernel_rfl) (by kernel_rfl) (by kernel_rfl) (fun _ _ _ h => h) (by kernel_rfl) (by intro _ h; exact ex_load (by exact rfl) (by exact rfl) (h.h1.load (P := Try.prog) 27 Try.underlying27 rfl v4_info)) ?_
  simp only [Act.put, List.setIfInBounds_toArray, List.set_cons_zero, List.set_cons_succ]
  refine tk (i := 9) (.agg (d.cells p)) hS5 rfl (by kernel_rfl) (by kernel_rfl) (by kernel_rfl) (fun _ _ _ h => h) (by kernel_rfl) (by intro _ h; exact ex_load (by exact rfl) (by exact rfl) (h.h1.load (P := Try.prog) 27 Try.underlying27 rfl v4_info)) ?_
  simp only [Act.put, List.setIfInBounds_toArray, List.set_cons_zero, List.set_cons_succ]
  refine tk_call (i := 10) (.bool true) (by kernel_rfl) rfl (by kernel_rfl) (by exact ex_call (by exact rfl) Try.func20 (by kernel_rfl) (by kernel_rfl) (by simp only [List.map_toArray, List.map_cons, List.map_nil] <;> rfl)) (by refine (same4_any _ _ d d p p _ (hR.opt.below hS5.bel (Nat.le_refl _)) (hR.opt.below hS5.bel (Nat.le_refl _)) (hR.body.below hS5.bel (Nat.le_refl _)) (hR.body.below hS5.bel (Nat.le_refl _)) hS5.bel.size hS5.bel.size).mono fun e w' g => ?_; obtain ⟨x, rfl, hx, hb⟩ := g; exact ⟨by rw [hx.out, same4_self], hS5.keep hb⟩) ?_
  intro W10 hS10
  simp only [Act.put, List.setIfInBounds_toArray, List.set_cons_zero, List.set_cons_succ]
  refine tk (i := 11) (.bool true) hS10 rfl (by kernel_rfl) (by kernel_rfl) (by kernel_rfl) (fun _ _ _ h => h) (by kernel_rfl) (by intro _ _; exact rfl) ?_
  simp only [Act.put, List.setIfInBounds_toArray, List.set_cons_zero, List.set_cons_succ]
  refine tk (i := 12) (.bool true) hS10 rfl (by kernel_rfl) (by kernel_rfl) (by kernel_rfl) (fun _ _ _ h => h) (by kernel_rfl) (by intro _ _; exact rfl) ?_
  simp only [Act.put, List.setIfInBounds_toArray, List.set_cons_zero, List.set_cons_succ]
  refine tk (i := 13) (.agg (D.cells p1)) hS10 rfl (by kernel_rfl) (by kernel_rfl) (by kernel_rfl) (fun _ _ _ h => h) (by kernel_rfl) (by intro _ h; exact ex_load (by exact rfl) (by exact rfl) (h.h5.load (P := Try.prog) 27 Try.underlying27 rfl v4_info)) ?_
  simp only [Act.put, List.setIfInBounds_toArray, List.set_cons_zero, List.set_cons_succ]
  refine tk (i := 14) (.agg (D.cells p2)) hS10 rfl (by kernel_rfl) (by kernel_rfl) (by kernel_rfl) (fun _ _ _ h => h) (by kernel_rfl) (by intro _ h; exact ex_load (by exact rfl) (by exact rfl) (h.h7.load (P := Try.prog) 27 Try.underlying27 rfl v4_info)) ?_
  simp only [Act.put, List.setIfInBounds_toArray, List.set_cons_zero, List.set_cons_succ]
  refine tk_call (i := 15) (.bool true) (by kernel_rfl) rfl (by kernel_rfl) (by exact ex_call (by exact rfl) Try.func21 (by kernel_rfl) (by kernel_rfl) (by simp only [List.map_toArray, List.map_cons, List.map_nil] <;> rfl)) (by refine (rsame4_any _ _ D D p1 p2 _ hS10.r1.opt hS10.r2.opt hS10.r1.body hS10.r2.body hS10.big hS10.big).mono fun e w' g => ?_; obtain ⟨x, rfl, hx, hb⟩ := g; exact ⟨by rw [hx.out, same4_self], hS10.keep hb⟩) ?_
  intro W15 hS15
  simp only [Act.put, List.setIfInBounds_toArray, List.set_cons_zero, List.set_cons_succ]
  refine tk (i := 16) (.bool true) hS15 rfl (by kernel_rfl) (by kernel_rfl) (by kernel_rfl) (fun _ _ _ h => h) (by kernel_rfl) (by intro _ _; exact rfl) ?_
  simp only [Act.put, List.setIfInBounds_toArray, List.set_cons_zero, List.set_cons_succ]
  refine tk (i := 17) (.bool true) hS15 rfl (by kernel_rfl) (by kernel_rfl) (by kernel_rfl) (fun _ _ _ h => h) (by kernel_rfl) (by intro _ _; exact rfl) ?_
  simp only [Act.put, List.setIfInBounds_toArray, List.set_cons_zero, List.set_cons_succ]
  refine tk (i := 18) (.int .i64 s2) hS15 rfl (by kernel_rfl) (by kernel_rfl) (by kernel_rfl) (fun _ _ _ h => h) (by kernel_rfl) (by intro _ _; exact rfl) ?_
  simp only [Act.put, List.setIfInBounds_toArray, List.set_cons_zero, List.set_cons_succ]
  refine tk (i := 19) (.int .i64 s2) hS15 rfl (by kernel_rfl) (by kernel_rfl) (by kernel_rfl) (fun _ _ _ h => h) (by kernel_rfl) (by intro _ _; exact rfl) ?_
  simp only [Act.put, List.setIfInBounds_toArray, List.set_cons_zero, List.set_cons_succ]
  refine tk (i := 20) (.bool true) hS15 rfl (by kernel_rfl) (by kernel_rfl) (by kernel_rfl) (fun _ _ _ h => h) (by kernel_rfl) (by intro _ _; exact eq_int_self (m := s2) (by exact rfl) (by exact rfl) (by exact rfl)) ?_
  simp only [Act.put, List.setIfInBounds_toArray, List.set_cons_zero, List.set_cons_succ]
  refine tk (i := 21) (.bool true) hS15 rfl (by kernel_rfl) (by kernel_rfl) (by kernel_rfl) (fun _ _ _ h => h) (by kernel_rfl) (by intro _ _; exact rfl) ?_
  simp only [Act.put, List.setIfInBounds_toArray, List.set_cons_zero, List.set_cons_succ]
  refine tk (i := 22) (.bool true) hS15 rfl (by kernel_rfl) (by kernel_rfl) (by kernel_rfl) (fun _ _ _ h => h) (by kernel_rfl) (by intro _ _; exact rfl) ?_
  simp only [Act.put, List.setIfInBounds_toArray, List.set_cons_zero, List.set_cons_succ]
  refine tk_call (i := 23) (.bool true) (by kernel_rfl) rfl (by kernel_rfl) (by exact ex_call (by exact rfl) Try.func17 (by kernel_rfl) (by kernel_rfl) (by simp only [List.map_toArray, List.map_cons, List.map_nil] <;> rfl)) ((awake_any _).mono fun e w' g => ⟨g.1, hS15.keep g.2⟩) ?_
  intro W23 hS23
  simp only [Act.put, List.setIfInBounds_toArray, List.set_cons_zero, List.set_cons_succ]
  refine tk (i := 24) (.bool true) hS23 rfl (by kernel_rfl) (by kernel_rfl) (by kernel_rfl) (fun _ _ _ h => h) (by kernel_rfl) (by intro _ _; exact rfl) ?_
  simp only [Act.put, List.setIfInBounds_toArray, List.set_cons_zero, List.set_cons_succ]
  refine tk (i := 25) (.bool true) hS23 rfl (by kernel_rfl) (by kernel_rfl) (by kernel_rfl) (fun _ _ _ h => h) (by kernel_rfl) (by intro _ _; exact rfl) ?_
  simp only [Act.put, List.setIfInBounds_toArray, List.set_cons_zero, List.set_cons_succ]
  refine wpAnyH_done (by kernel_rfl) ?_ _
  go_wp2
  go_ret
  exact ⟨rfl, hS23.bel⟩
  -- END 3
end Go.Proofs.Ytfkcejfjmfliaaa
