/-
  The walk of Ipv4Writes.
-/
import Derived.Test.YtfkcejfjmfliaaaLaw4A
import Derived.Test.YtfkcejfjmfliaaaReg
namespace Go.Proofs.Ytfkcejfjmfliaaa
open Go.RowKit Go.Shelf

theorem One.eq {x : Int} {e : Ending} (h : One x e) : e = .returned (.int .i64 x) := by obtain ⟨q, rfl, h⟩ := h; rw [h.out]

/-- what the last region of Ipv4Writes leans on -/
structure S4 (d : D4) (p : W4) (w : World) (g N : Nat) (A1 A2 : Option Addr) (k1 k2 : Nat) (L : List Int) (w' : World) : Prop where
  has : Has w' g (.cells (d.cells p) 27 (0, 0))
  y1 : By N w' A1 L.length k1 L
  y2 : By N w' A2 L.length k2 L
  big : N ≤ w'.heap.size
  bel : Below w.heap.size w w'
theorem S4.keep {d : D4} {p : W4} {w w' w'' : World} {g N : Nat} {A1 A2 : Option Addr} {k1 k2 : Nat} {L : List Int} (h : S4 d p w g N A1 A2 k1 k2 L w') (hb : Below w'.heap.size w' w'') : S4 d p w g N A1 A2 k1 k2 L w'' :=
  ⟨h.has.below hb h.has.lt, h.y1.below hb h.big, h.y2.below hb h.big, Nat.le_trans h.big hb.size, h.bel.trans (hb.mono h.bel.size)⟩

set_option maxRecDepth 100000 in
set_option maxHeartbeats 1000000 in
theorem writes_any (d : D4) (p : W4) (w : World) (hR : Rd4 w.heap.size w d p) :
    Calls Try.prog 3 #[.agg (d.cells p)] w fun e w' => e = .returned (.bool true) ∧ Below w.heap.size w w' := by
  have b1 := Nat.le_trans hR.opt.cap hR.opt.big
  have b2 := Nat.le_trans hR.body.cap hR.body.big
  have hB : Below w.heap.size w (w.alloc (.cells (d.cells p) 27)) := (Below.refl _ _).alloc (Nat.le_refl _) _
  have hH : Has (w.alloc (.cells (d.cells p) 27)) w.heap.size (.cells (d.cells p) 27 (0, 0)) := Has.newAt rfl
  have hc1 := Lib.hid (write_any d p (w.alloc (.cells (d.cells p) 27)) ((hR.below hB (Nat.le_refl _)).more hB.size))
  have b1H := Lib.hid b1
  have b2H := Lib.hid b2
  clear b1 b2
  go_enter Try.func3, Try.ntmps3
  go_wp2_with (refine wpList_load_row rfl 27 (.tmp 1) rfl w.heap.size rfl 27 (d.cells p) (0, 0) _ (World.alloc_heap_new _ _) Try.underlying27 rfl v4_info ?_)
  refine hc1.out.mono ?_
  rintro e w1 ⟨v1, s1, rfl, hs1, ho1, hb1⟩
  have hH1 := hH.below hb1 hH.lt
  have hB1 := hB.trans (hb1.mono hB.size)
  obtain ⟨L, hL⟩ : ∃ L, d.write = L := ⟨_, rfl⟩
  rw [hL] at ho1
  obtain ⟨A1, k1, rfl, y1⟩ := ho1.by_
  have hLH := Lib.hid hL
  clear hc1 hH hB hb1 hL
  have hc2 := Lib.hid (rwrite_any d p w1 ((hR.below hB1 (Nat.le_refl _)).more hB1.size))
  go_wp2_with (refine wpList_load_row rfl 27 (.tmp 1) rfl w.heap.size rfl 27 (d.cells p) (0, 0) _ hH1 Try.underlying27 rfl v4_info ?_)
  refine hc2.out.mono ?_
  rintro e w2 ⟨v2, s2, rfl, hs2, ho2, hb2⟩
  obtain rfl : s2 = s1 := hs2.out.trans hs1.out.symm
  rw [hLH.out] at ho2
  obtain ⟨A2, k2, rfl, y2⟩ := ho2.by_
  have hH2 := hH1.below hb2 hH1.lt
  have hB2 := hB1.trans (hb2.mono hB1.size)
  have y1 := (y1.below hb2 (Nat.le_refl _)).more (B' := w2.heap.size) hb2.size
  clear hc2 hH1 hB1 hb2 ho1 ho2 hs2
  have hc3 := Lib.hid (size_any d p w2 b1H.out b2H.out)
  go_wp2_with (refine wpList_load_row rfl 27 (.tmp 1) rfl w.heap.size rfl 27 (d.cells p) (0, 0) _ hH2 Try.underlying27 rfl v4_info ?_)
  refine hc3.out.mono ?_
  rintro e w3 ⟨⟨q, r, s3, rfl, hq⟩, hb3⟩
  have hH3 := hH2.below hb3 hH2.lt
  have hB3 := hB2.trans (hb3.mono hB2.size)
  have y1 := (y1.below hb3 (Nat.le_refl _)).more (B' := w3.heap.size) hb3.size
  have y2 := (y2.below hb3 (Nat.le_refl _)).more (B' := w3.heap.size) hb3.size
  clear hc3 hH2 hB2 hb3
  have hc4 := Lib.hid (rsize_any d p w3 b1H.out b2H.out)
  go_wp2_with (refine wpList_load_row rfl 27 (.tmp 1) rfl w.heap.size rfl 27 (d.cells p) (0, 0) _ hH3 Try.underlying27 rfl v4_info ?_)
  refine hc4.out.mono ?_
  rintro e w4 ⟨⟨q', r', s4, rfl, hq'⟩, hb4⟩
  obtain rfl : q' = q := hq'.out.1.trans hq.out.1.symm
  obtain rfl : r' = r := hq'.out.2.1.trans hq.out.2.1.symm
  obtain rfl : s4 = s3 := hq'.out.2.2.trans hq.out.2.2.symm
  have hH4 := hH3.below hb4 hH3.lt
  have hB4 := hB3.trans (hb4.mono hB3.size)
  have y1 := (y1.below hb4 (Nat.le_refl _)).more (B' := w4.heap.size) hb4.size
  have y2 := (y2.below hb4 (Nat.le_refl _)).more (B' := w4.heap.size) hb4.size
  clear hc4 hH3 hB3 hb4
  obtain ⟨X, hX⟩ : ∃ X, d.check = X := ⟨_, rfl⟩
  have hS : S4 d p w w.heap.size w4.heap.size A1 A2 k1 k2 L w4.drew := ⟨hH4.drew, y1.drew, y2.drew, Nat.le_refl _, hB4.trans (below_drew _ _)⟩
  have hcA := Lib.hid (fun w' (h : S4 d p w w.heap.size w4.heap.size A1 A2 k1 k2 L w') => (check_any d p w' b1H.out b2H.out).mono fun e w'' g => (⟨hX ▸ g.1.eq, h.keep g.2⟩ : e = .returned (.int .i64 X) ∧ S4 d p w w.heap.size w4.heap.size A1 A2 k1 k2 L w''))
  have hcB := Lib.hid (fun w' (h : S4 d p w w.heap.size w4.heap.size A1 A2 k1 k2 L w') => (rcheck_any d p w' b1H.out b2H.out).mono fun e w'' g => (⟨hX ▸ g.1.eq, h.keep g.2⟩ : e = .returned (.int .i64 X) ∧ S4 d p w w.heap.size w4.heap.size A1 A2 k1 k2 L w''))
  have hcC := Lib.hid (fun w' (h : S4 d p w w.heap.size w4.heap.size A1 A2 k1 k2 L w') => (awake_any w').mono fun e w'' g => (⟨g.1, h.keep g.2⟩ : e = .returned (.bool true) ∧ S4 d p w w.heap.size w4.heap.size A1 A2 k1 k2 L w''))
  have u1 := fun w' (h : S4 d p w w.heap.size w4.heap.size A1 A2 k1 k2 L w') => h.y1.conv (P := Try.prog) 25 9 Try.underlying25 Try.underlying5 Try.underlying9
  have u2 := fun w' (h : S4 d p w w.heap.size w4.heap.size A1 A2 k1 k2 L w') => h.y2.conv (P := Try.prog) 25 9 Try.underlying25 Try.underlying5 Try.underlying9
  have l1 := fun w' (h : S4 d p w w.heap.size w4.heap.size A1 A2 k1 k2 L w') => h.has.load (P := Try.prog) 27 Try.underlying27 rfl v4_info
  have u1 := Lib.hid u1
  have u2 := Lib.hid u2
  have l1 := Lib.hid l1
  have hSH := Lib.hid hS
  clear hq hq' y1 y2 hX hH4 hB4 hS
  go_wp2
  refine wp_region_held_drew (S := S4 d p w w.heap.size w4.heap.size A1 A2 k1 k2 L) (by kernel_rfl) hSH.out (fun hS => ?_)
  refine tk (i := 0) (.slice A1 L.length k1) hS rfl (by kernel_rfl) (by kernel_rfl) (by kernel_rfl) (fun _ _ _ h => h) (by kernel_rfl) (by intro _ _; exact rfl) ?_
  simp only [Act.put, List.setIfInBounds_toArray, List.set_cons_zero, List.set_cons_succ]
  refine tk (i := 1) (.string (strOfNums L)) hS rfl (by kernel_rfl) (by kernel_rfl) (by kernel_rfl) (fun _ _ _ h => h) (by kernel_rfl) (by intro _ h; exact ex_conv (by exact rfl) (by exact rfl) (u1.out _ h)) ?_
  simp only [Act.put, List.setIfInBounds_toArray, List.set_cons_zero, List.set_cons_succ]
  refine tk (i := 2) (.slice A2 L.length k2) hS rfl (by kernel_rfl) (by kernel_rfl) (by kernel_rfl) (fun _ _ _ h => h) (by kernel_rfl) (by intro _ _; exact rfl) ?_
  simp only [Act.put, List.setIfInBounds_toArray, List.set_cons_zero, List.set_cons_succ]
  refine tk (i := 3) (.string (strOfNums L)) hS rfl (by kernel_rfl) (by kernel_rfl) (by kernel_rfl) (fun _ _ _ h => h) (by kernel_rfl) (by intro _ h; exact ex_conv (by exact rfl) (by exact rfl) (u2.out _ h)) ?_
  simp only [Act.put, List.setIfInBounds_toArray, List.set_cons_zero, List.set_cons_succ]
  refine tk (i := 4) (.bool true) hS rfl (by kernel_rfl) (by kernel_rfl) (by kernel_rfl) (fun _ _ _ h => h) (by kernel_rfl) (by intro _ _; exact eq_str_self (s := (strOfNums L)) (by exact rfl) (by exact rfl) (by exact rfl)) ?_
  simp only [Act.put, List.setIfInBounds_toArray, List.set_cons_zero, List.set_cons_succ]
  refine tk (i := 5) (.bool true) hS rfl (by kernel_rfl) (by kernel_rfl) (by kernel_rfl) (fun _ _ _ h => h) (by kernel_rfl) (by intro _ _; exact rfl) ?_
  simp only [Act.put, List.setIfInBounds_toArray, List.set_cons_zero, List.set_cons_succ]
  refine tk (i := 6) (.int .i64 s2) hS rfl (by kernel_rfl) (by kernel_rfl) (by kernel_rfl) (fun _ _ _ h => h) (by kernel_rfl) (by intro _ _; exact rfl) ?_
  simp only [Act.put, List.setIfInBounds_toArray, List.set_cons_zero, List.set_cons_succ]
  refine tk (i := 7) (.int .i64 s2) hS rfl (by kernel_rfl) (by kernel_rfl) (by kernel_rfl) (fun _ _ _ h => h) (by kernel_rfl) (by intro _ _; exact rfl) ?_
  simp only [Act.put, List.setIfInBounds_toArray, List.set_cons_zero, List.set_cons_succ]
  refine tk (i := 8) (.bool true) hS rfl (by kernel_rfl) (by kernel_rfl) (by kernel_rfl) (fun _ _ _ h => h) (by kernel_rfl) (by intro _ _; exact eq_int_self (m := s2) (by exact rfl) (by exact rfl) (by exact rfl)) ?_
  simp only [Act.put, List.setIfInBounds_toArray, List.set_cons_zero, List.set_cons_succ]
  refine tk (i := 9) (.bool true) hS rfl (by kernel_rfl) (by kernel_rfl) (by kernel_rfl) (fun _ _ _ h => h) (by kernel_rfl) (by intro _ _; exact rfl) ?_
  simp only [Act.put, List.setIfInBounds_toArray, List.set_cons_zero, List.set_cons_succ]
  refine tk (i := 10) (.bool true) hS rfl (by kernel_rfl) (by kernel_rfl) (by kernel_rfl) (fun _ _ _ h => h) (by kernel_rfl) (by intro _ _; exact rfl) ?_
  simp only [Act.put, List.setIfInBounds_toArray, List.set_cons_zero, List.set_cons_succ]
  refine tk (i := 11) (.int .i64 q') hS rfl (by kernel_rfl) (by kernel_rfl) (by kernel_rfl) (fun _ _ _ h => h) (by kernel_rfl) (by intro _ _; exact rfl) ?_
  simp only [Act.put, List.setIfInBounds_toArray, List.set_cons_zero, List.set_cons_succ]
  refine tk (i := 12) (.int .i64 q') hS rfl (by kernel_rfl) (by kernel_rfl) (by kernel_rfl) (fun _ _ _ h => h) (by kernel_rfl) (by intro _ _; exact rfl) ?_
  simp only [Act.put, List.setIfInBounds_toArray, List.set_cons_zero, List.set_cons_succ]
  refine tk (i := 13) (.bool true) hS rfl (by kernel_rfl) (by kernel_rfl) (by kernel_rfl) (fun _ _ _ h => h) (by kernel_rfl) (by intro _ _; exact eq_int_self (m := q') (by exact rfl) (by exact rfl) (by exact rfl)) ?_
  simp only [Act.put, List.setIfInBounds_toArray, List.set_cons_zero, List.set_cons_succ]
  refine tk (i := 14) (.bool true) hS rfl (by kernel_rfl) (by kernel_rfl) (by kernel_rfl) (fun _ _ _ h => h) (by kernel_rfl) (by intro _ _; exact rfl) ?_
  simp only [Act.put, List.setIfInBounds_toArray, List.set_cons_zero, List.set_cons_succ]
  refine tk (i := 15) (.bool true) hS rfl (by kernel_rfl) (by kernel_rfl) (by kernel_rfl) (fun _ _ _ h => h) (by kernel_rfl) (by intro _ _; exact rfl) ?_
  simp only [Act.put, List.setIfInBounds_toArray, List.set_cons_zero, List.set_cons_succ]
  refine tk (i := 16) (.int .i64 r') hS rfl (by kernel_rfl) (by kernel_rfl) (by kernel_rfl) (fun _ _ _ h => h) (by kernel_rfl) (by intro _ _; exact rfl) ?_
  simp only [Act.put, List.setIfInBounds_toArray, List.set_cons_zero, List.set_cons_succ]
  refine tk (i := 17) (.int .i64 r') hS rfl (by kernel_rfl) (by kernel_rfl) (by kernel_rfl) (fun _ _ _ h => h) (by kernel_rfl) (by intro _ _; exact rfl) ?_
  simp only [Act.put, List.setIfInBounds_toArray, List.set_cons_zero, List.set_cons_succ]
  refine tk (i := 18) (.bool true) hS rfl (by kernel_rfl) (by kernel_rfl) (by kernel_rfl) (fun _ _ _ h => h) (by kernel_rfl) (by intro _ _; exact eq_int_self (m := r') (by exact rfl) (by exact rfl) (by exact rfl)) ?_
  simp only [Act.put, List.setIfInBounds_toArray, List.set_cons_zero, List.set_cons_succ]
  refine tk (i := 19) (.bool true) hS rfl (by kernel_rfl) (by kernel_rfl) (by kernel_rfl) (fun _ _ _ h => h) (by kernel_rfl) (by intro _ _; exact rfl) ?_
  simp only [Act.put, List.setIfInBounds_toArray, List.set_cons_zero, List.set_cons_succ]
  refine tk (i := 20) (.bool true) hS rfl (by kernel_rfl) (by kernel_rfl) (by kernel_rfl) (fun _ _ _ h => h) (by kernel_rfl) (by intro _ _; exact rfl) ?_
  simp only [Act.put, List.setIfInBounds_toArray, List.set_cons_zero, List.set_cons_succ]
  refine tk (i := 21) (.int .i64 s4) hS rfl (by kernel_rfl) (by kernel_rfl) (by kernel_rfl) (fun _ _ _ h => h) (by kernel_rfl) (by intro _ _; exact rfl) ?_
  simp only [Act.put, List.setIfInBounds_toArray, List.set_cons_zero, List.set_cons_succ]
  refine tk (i := 22) (.int .i64 s4) hS rfl (by kernel_rfl) (by kernel_rfl) (by kernel_rfl) (fun _ _ _ h => h) (by kernel_rfl) (by intro _ _; exact rfl) ?_
  simp only [Act.put, List.setIfInBounds_toArray, List.set_cons_zero, List.set_cons_succ]
  refine tk (i := 23) (.bool true) hS rfl (by kernel_rfl) (by kernel_rfl) (by kernel_rfl) (fun _ _ _ h => h) (by kernel_rfl) (by intro _ _; exact eq_int_self (m := s4) (by exact rfl) (by exact rfl) (by exact rfl)) ?_
  simp only [Act.put, List.setIfInBounds_toArray, List.set_cons_zero, List.set_cons_succ]
  refine tk (i := 24) (.bool true) hS rfl (by kernel_rfl) (by kernel_rfl) (by kernel_rfl) (fun _ _ _ h => h) (by kernel_rfl) (by intro _ _; exact rfl) ?_
  simp only [Act.put, List.setIfInBounds_toArray, List.set_cons_zero, List.set_cons_succ]
  refine tk (i := 25) (.bool true) hS rfl (by kernel_rfl) (by kernel_rfl) (by kernel_rfl) (fun _ _ _ h => h) (by kernel_rfl) (by intro _ _; exact rfl) ?_
  simp only [Act.put, List.setIfInBounds_toArray, List.set_cons_zero, List.set_cons_succ]
  refine tk (i := 26) (.agg (d.cells p)) hS rfl (by kernel_rfl) (by kernel_rfl) (by kernel_rfl) (fun _ _ _ h => h) (by kernel_rfl) (by intro _ h; exact ex_load (by exact rfl) (by exact rfl) (l1.out _ h)) ?_
  simp only [Act.put, List.setIfInBounds_toArray, List.set_cons_zero, List.set_cons_succ]
  refine tk (i := 28) (.agg (d.cells p)) hS rfl (by kernel_rfl) (by kernel_rfl) (by kernel_rfl) (fun _ _ _ h => h) (by kernel_rfl) (by intro _ h; exact ex_load (by exact rfl) (by exact rfl) (l1.out _ h)) ?_
  simp only [Act.put, List.setIfInBounds_toArray, List.set_cons_zero, List.set_cons_succ]
  refine tk_call (i := 27) (.int .i64 X) hS (by kernel_rfl) rfl (by kernel_rfl) (by exact ex_call (by exact rfl) Try.func15 (by kernel_rfl) (by kernel_rfl) (by simp only [List.map_toArray, List.map_cons, List.map_nil] <;> rfl)) (hcA.out) ?_
  intro W28 hS28
  simp only [Act.put, List.setIfInBounds_toArray, List.set_cons_zero, List.set_cons_succ]
  refine tk_call (i := 29) (.int .i64 X) hS28 (by kernel_rfl) rfl (by kernel_rfl) (by exact ex_call (by exact rfl) Try.func16 (by kernel_rfl) (by kernel_rfl) (by simp only [List.map_toArray, List.map_cons, List.map_nil] <;> rfl)) (hcB.out) ?_
  intro W29 hS29
  simp only [Act.put, List.setIfInBounds_toArray, List.set_cons_zero, List.set_cons_succ]
  refine tk (i := 30) (.bool true) hS29 rfl (by kernel_rfl) (by kernel_rfl) (by kernel_rfl) (fun _ _ _ h => h) (by kernel_rfl) (by intro _ _; exact eq_int_self (m := X) (by exact rfl) (by exact rfl) (by exact rfl)) ?_
  simp only [Act.put, List.setIfInBounds_toArray, List.set_cons_zero, List.set_cons_succ]
  refine tk (i := 31) (.bool true) hS29 rfl (by kernel_rfl) (by kernel_rfl) (by kernel_rfl) (fun _ _ _ h => h) (by kernel_rfl) (by intro _ _; exact rfl) ?_
  simp only [Act.put, List.setIfInBounds_toArray, List.set_cons_zero, List.set_cons_succ]
  refine tk (i := 32) (.bool true) hS29 rfl (by kernel_rfl) (by kernel_rfl) (by kernel_rfl) (fun _ _ _ h => h) (by kernel_rfl) (by intro _ _; exact rfl) ?_
  simp only [Act.put, List.setIfInBounds_toArray, List.set_cons_zero, List.set_cons_succ]
  refine tk_call (i := 33) (.bool true) hS29 (by kernel_rfl) rfl (by kernel_rfl) (by exact ex_call (by exact rfl) Try.func17 (by kernel_rfl) (by kernel_rfl) (by simp only [List.map_toArray, List.map_cons, List.map_nil] <;> rfl)) (hcC.out) ?_
  intro W33 hS33
  simp only [Act.put, List.setIfInBounds_toArray, List.set_cons_zero, List.set_cons_succ]
  refine tk (i := 34) (.bool true) hS33 rfl (by kernel_rfl) (by kernel_rfl) (by kernel_rfl) (fun _ _ _ h => h) (by kernel_rfl) (by intro _ _; exact rfl) ?_
  simp only [Act.put, List.setIfInBounds_toArray, List.set_cons_zero, List.set_cons_succ]
  refine tk (i := 35) (.bool true) hS33 rfl (by kernel_rfl) (by kernel_rfl) (by kernel_rfl) (fun _ _ _ h => h) (by kernel_rfl) (by intro _ _; exact rfl) ?_
  simp only [Act.put, List.setIfInBounds_toArray, List.set_cons_zero, List.set_cons_succ]
  refine wpAnyH_done (by kernel_rfl) ?_ _
  go_wp2
  go_ret
  exact ⟨rfl, hS33.bel⟩
end Go.Proofs.Ytfkcejfjmfliaaa
