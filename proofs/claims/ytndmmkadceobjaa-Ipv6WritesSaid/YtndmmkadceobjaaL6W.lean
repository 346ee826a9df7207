/-
  The walk of Ipv6Writes.
-/
import Derived.Test.YtndmmkadceobjaaV6AL
namespace Go.Proofs.Ytndmmkadceobjaa
open Go.RowKit Go.Shelf

set_option maxRecDepth 100000 in
set_option maxHeartbeats 4000000 in
theorem writes6_walk (d : D6) (p : W6) (w : World) (hR : Rd6 w.heap.size w d p) :
    Calls Try.prog 3 #[.agg (d.cells p)] w fun e w' => e = .returned (.bool true) ∧ Below w.heap.size w w' := by
  obtain ⟨W1, hW1⟩ : ∃ W, w.alloc (.cells (d.cells p) 28) = W := ⟨_, rfl⟩
  obtain ⟨K0, hB⟩ := K6.arg hR
  rw [hW1] at K0 hB
  obtain ⟨L, hL⟩ : ∃ L, d.write = L := ⟨_, rfl⟩
  have k1 := Lib.hid (write6_any d p W1 K0.rd)
  rw [hL] at k1
  have x0 := K0.has
  go_enter Try.func3, Try.ntmps3
  go_wp2_with (refine wpList_load_rowG (by kernel_rfl) 28 (.tmp 1) rfl w.heap.size rfl 28 (d.cells p) (0, 0) _ x0 Try.underlying28 rfl v6_info ?_)
  refine k1.out.mono ?_
  rintro e w2 ⟨v1, s1, rfl, hs1, o1, hb⟩
  have hB := hB.trans (hb.mono hB.size)
  have K2 := K0.below hb
  have x2 := K2.has
  obtain ⟨A1, c1, rfl, y1⟩ := o1.by_
  have k2 := Lib.hid (rwrite6_any d p w2 K2.rd)
  rw [hL] at k2
  clear k1 hW1 o1 K0 hb x0
  go_wp2_with (refine wpList_load_rowG (by kernel_rfl) 28 (.tmp 1) rfl w.heap.size rfl 28 (d.cells p) (0, 0) _ x2 Try.underlying28 rfl v6_info ?_)
  refine k2.out.mono ?_
  rintro e w3 ⟨v2, s2, rfl, hs2, o2, hb⟩
  obtain rfl : s1 = s2 := hs1.out.trans hs2.out.symm
  have hB := hB.trans (hb.mono hB.size)
  have K3 := K2.below hb
  have x3 := K3.has
  have y1 := (y1.below hb (Nat.le_refl _)).more hb.size
  obtain ⟨A2, c2, rfl, y2⟩ := o2.by_
  clear k2 hs1 hs2 o2 K2 hb x2
  go_wp2_with (refine wpList_load_rowG (by kernel_rfl) 28 (.tmp 1) rfl w.heap.size rfl 28 (d.cells p) (0, 0) _ x3 Try.underlying28 rfl v6_info ?_)
  refine (size6_any d p w3 K3.rd).mono ?_
  rintro e w4 ⟨⟨q, r, s, rfl, hq⟩, hb⟩
  have hB := hB.trans (hb.mono hB.size)
  have K4 := K3.below hb
  have x4 := K4.has
  have y1 := (y1.below hb (Nat.le_refl _)).more hb.size
  have y2 := (y2.below hb (Nat.le_refl _)).more hb.size
  clear K3 hb x3
  go_wp2_with (refine wpList_load_rowG (by kernel_rfl) 28 (.tmp 1) rfl w.heap.size rfl 28 (d.cells p) (0, 0) _ x4 Try.underlying28 rfl v6_info ?_)
  refine (rsize6_any d p w4 K4.rd).mono ?_
  rintro e w5 ⟨⟨q', r', s', rfl, hq'⟩, hb⟩
  obtain rfl : q = q' := hq.out.1.trans hq'.out.1.symm
  obtain rfl : r = r' := hq.out.2.1.trans hq'.out.2.1.symm
  obtain rfl : s = s' := hq.out.2.2.trans hq'.out.2.2.symm
  have hB := hB.trans (hb.mono hB.size)
  have K5 := K4.below hb
  have y1 := (y1.below hb (Nat.le_refl _)).more hb.size
  have y2 := (y2.below hb (Nat.le_refl _)).more hb.size
  obtain ⟨X, hX⟩ : ∃ X, d.check = X := ⟨_, rfl⟩
  have hXH := Lib.hid hX
  clear hX K4 hb x4 hq hq' hL
  go_wp2
  refine wp_region_held_drew (S := fun W => Below w5.heap.size w5 W) (by kernel_rfl) (below_drew _ _) (fun hS => ?_)
  refine tk (i := 0) (.slice A1 L.length c1) hS rfl (by kernel_rfl) (by kernel_rfl) (by kernel_rfl) (fun _ _ _ h => h) (by kernel_rfl) (by intro _ _; exact rfl) ?_
  simp only [Act.put, List.setIfInBounds_toArray, List.set_cons_zero, List.set_cons_succ]
  refine tk (i := 1) (.string (strOfNums L)) hS rfl (by kernel_rfl) (by kernel_rfl) (by kernel_rfl) (fun _ _ _ h => h) (by kernel_rfl) (by intro _ h; exact ex_conv (by exact rfl) (by exact rfl) ((y1.below h (Nat.le_refl _)).conv _ _ Try.underlying26 Try.underlying5 Try.underlying9)) ?_
  simp only [Act.put, List.setIfInBounds_toArray, List.set_cons_zero, List.set_cons_succ]
  refine tk (i := 2) (.slice A2 L.length c2) hS rfl (by kernel_rfl) (by kernel_rfl) (by kernel_rfl) (fun _ _ _ h => h) (by kernel_rfl) (by intro _ _; exact rfl) ?_
  simp only [Act.put, List.setIfInBounds_toArray, List.set_cons_zero, List.set_cons_succ]
  refine tk (i := 3) (.string (strOfNums L)) hS rfl (by kernel_rfl) (by kernel_rfl) (by kernel_rfl) (fun _ _ _ h => h) (by kernel_rfl) (by intro _ h; exact ex_conv (by exact rfl) (by exact rfl) ((y2.below h (Nat.le_refl _)).conv _ _ Try.underlying26 Try.underlying5 Try.underlying9)) ?_
  simp only [Act.put, List.setIfInBounds_toArray, List.set_cons_zero, List.set_cons_succ]
  refine tk (i := 4) (.bool true) hS rfl (by kernel_rfl) (by kernel_rfl) (by kernel_rfl) (fun _ _ _ h => h) (by kernel_rfl) (by intro _ _; exact eq_str_self (s := (strOfNums L)) (by exact rfl) (by exact rfl) (by exact rfl)) ?_
  simp only [Act.put, List.setIfInBounds_toArray, List.set_cons_zero, List.set_cons_succ]
  refine tk (i := 5) (.bool true) hS rfl (by kernel_rfl) (by kernel_rfl) (by kernel_rfl) (fun _ _ _ h => h) (by kernel_rfl) (by intro _ _; exact rfl) ?_
  simp only [Act.put, List.setIfInBounds_toArray, List.set_cons_zero, List.set_cons_succ]
  refine tk (i := 6) (.int .i64 s1) hS rfl (by kernel_rfl) (by kernel_rfl) (by kernel_rfl) (fun _ _ _ h => h) (by kernel_rfl) (by intro _ _; exact rfl) ?_
  simp only [Act.put, List.setIfInBounds_toArray, List.set_cons_zero, List.set_cons_succ]
  refine tk (i := 7) (.int .i64 s1) hS rfl (by kernel_rfl) (by kernel_rfl) (by kernel_rfl) (fun _ _ _ h => h) (by kernel_rfl) (by intro _ _; exact rfl) ?_
  simp only [Act.put, List.setIfInBounds_toArray, List.set_cons_zero, List.set_cons_succ]
  refine tk (i := 8) (.bool true) hS rfl (by kernel_rfl) (by kernel_rfl) (by kernel_rfl) (fun _ _ _ h => h) (by kernel_rfl) (by intro _ _; exact eq_int_self (m := s1) (by exact rfl) (by exact rfl) (by exact rfl)) ?_
  simp only [Act.put, List.setIfInBounds_toArray, List.set_cons_zero, List.set_cons_succ]
  refine tk (i := 9) (.bool true) hS rfl (by kernel_rfl) (by kernel_rfl) (by kernel_rfl) (fun _ _ _ h => h) (by kernel_rfl) (by intro _ _; exact rfl) ?_
  simp only [Act.put, List.setIfInBounds_toArray, List.set_cons_zero, List.set_cons_succ]
  refine tk (i := 10) (.bool true) hS rfl (by kernel_rfl) (by kernel_rfl) (by kernel_rfl) (fun _ _ _ h => h) (by kernel_rfl) (by intro _ _; exact rfl) ?_
  simp only [Act.put, List.setIfInBounds_toArray, List.set_cons_zero, List.set_cons_succ]
  refine tk (i := 11) (.int .i64 q) hS rfl (by kernel_rfl) (by kernel_rfl) (by kernel_rfl) (fun _ _ _ h => h) (by kernel_rfl) (by intro _ _; exact rfl) ?_
  simp only [Act.put, List.setIfInBounds_toArray, List.set_cons_zero, List.set_cons_succ]
  refine tk (i := 12) (.int .i64 q) hS rfl (by kernel_rfl) (by kernel_rfl) (by kernel_rfl) (fun _ _ _ h => h) (by kernel_rfl) (by intro _ _; exact rfl) ?_
  simp only [Act.put, List.setIfInBounds_toArray, List.set_cons_zero, List.set_cons_succ]
  refine tk (i := 13) (.bool true) hS rfl (by kernel_rfl) (by kernel_rfl) (by kernel_rfl) (fun _ _ _ h => h) (by kernel_rfl) (by intro _ _; exact eq_int_self (m := q) (by exact rfl) (by exact rfl) (by exact rfl)) ?_
  simp only [Act.put, List.setIfInBounds_toArray, List.set_cons_zero, List.set_cons_succ]
  refine tk (i := 14) (.bool true) hS rfl (by kernel_rfl) (by kernel_rfl) (by kernel_rfl) (fun _ _ _ h => h) (by kernel_rfl) (by intro _ _; exact rfl) ?_
  simp only [Act.put, List.setIfInBounds_toArray, List.set_cons_zero, List.set_cons_succ]
  refine tk (i := 15) (.bool true) hS rfl (by kernel_rfl) (by kernel_rfl) (by kernel_rfl) (fun _ _ _ h => h) (by kernel_rfl) (by intro _ _; exact rfl) ?_
  simp only [Act.put, List.setIfInBounds_toArray, List.set_cons_zero, List.set_cons_succ]
  refine tk (i := 16) (.int .i64 r) hS rfl (by kernel_rfl) (by kernel_rfl) (by kernel_rfl) (fun _ _ _ h => h) (by kernel_rfl) (by intro _ _; exact rfl) ?_
  simp only [Act.put, List.setIfInBounds_toArray, List.set_cons_zero, List.set_cons_succ]
  refine tk (i := 17) (.int .i64 r) hS rfl (by kernel_rfl) (by kernel_rfl) (by kernel_rfl) (fun _ _ _ h => h) (by kernel_rfl) (by intro _ _; exact rfl) ?_
  simp only [Act.put, List.setIfInBounds_toArray, List.set_cons_zero, List.set_cons_succ]
  refine tk (i := 18) (.bool true) hS rfl (by kernel_rfl) (by kernel_rfl) (by kernel_rfl) (fun _ _ _ h => h) (by kernel_rfl) (by intro _ _; exact eq_int_self (m := r) (by exact rfl) (by exact rfl) (by exact rfl)) ?_
  simp only [Act.put, List.setIfInBounds_toArray, List.set_cons_zero, List.set_cons_succ]
  refine tk (i := 19) (.bool true) hS rfl (by kernel_rfl) (by kernel_rfl) (by kernel_rfl) (fun _ _ _ h => h) (by kernel_rfl) (by intro _ _; exact rfl) ?_
  simp only [Act.put, List.setIfInBounds_toArray, List.set_cons_zero, List.set_cons_succ]
  refine tk (i := 20) (.bool true) hS rfl (by kernel_rfl) (by kernel_rfl) (by kernel_rfl) (fun _ _ _ h => h) (by kernel_rfl) (by intro _ _; exact rfl) ?_
  simp only [Act.put, List.setIfInBounds_toArray, List.set_cons_zero, List.set_cons_succ]
  refine tk (i := 21) (.int .i64 s) hS rfl (by kernel_rfl) (by kernel_rfl) (by kernel_rfl) (fun _ _ _ h => h) (by kernel_rfl) (by intro _ _; exact rfl) ?_
  simp only [Act.put, List.setIfInBounds_toArray, List.set_cons_zero, List.set_cons_succ]
  refine tk (i := 22) (.int .i64 s) hS rfl (by kernel_rfl) (by kernel_rfl) (by kernel_rfl) (fun _ _ _ h => h) (by kernel_rfl) (by intro _ _; exact rfl) ?_
  simp only [Act.put, List.setIfInBounds_toArray, List.set_cons_zero, List.set_cons_succ]
  refine tk (i := 23) (.bool true) hS rfl (by kernel_rfl) (by kernel_rfl) (by kernel_rfl) (fun _ _ _ h => h) (by kernel_rfl) (by intro _ _; exact eq_int_self (m := s) (by exact rfl) (by exact rfl) (by exact rfl)) ?_
  simp only [Act.put, List.setIfInBounds_toArray, List.set_cons_zero, List.set_cons_succ]
  refine tk (i := 24) (.bool true) hS rfl (by kernel_rfl) (by kernel_rfl) (by kernel_rfl) (fun _ _ _ h => h) (by kernel_rfl) (by intro _ _; exact rfl) ?_
  simp only [Act.put, List.setIfInBounds_toArray, List.set_cons_zero, List.set_cons_succ]
  refine tk (i := 25) (.bool true) hS rfl (by kernel_rfl) (by kernel_rfl) (by kernel_rfl) (fun _ _ _ h => h) (by kernel_rfl) (by intro _ _; exact rfl) ?_
  simp only [Act.put, List.setIfInBounds_toArray, List.set_cons_zero, List.set_cons_succ]
  refine tk (i := 26) (.agg (d.cells p)) hS rfl (by kernel_rfl) (by kernel_rfl) (by kernel_rfl) (fun _ _ _ h => h) (by kernel_rfl) (by intro _ h; exact ex_load (by exact rfl) (by exact rfl) (((K5.has.below h K5.has.lt).load (P := Try.prog) 28 Try.underlying28 rfl v6_info))) ?_
  simp only [Act.put, List.setIfInBounds_toArray, List.set_cons_zero, List.set_cons_succ]
  refine tk (i := 28) (.agg (d.cells p)) hS rfl (by kernel_rfl) (by kernel_rfl) (by kernel_rfl) (fun _ _ _ h => h) (by kernel_rfl) (by intro _ h; exact ex_load (by exact rfl) (by exact rfl) (((K5.has.below h K5.has.lt).load (P := Try.prog) 28 Try.underlying28 rfl v6_info))) ?_
  simp only [Act.put, List.setIfInBounds_toArray, List.set_cons_zero, List.set_cons_succ]
  refine tk_one (by kernel_rfl) (op_callx (i := 27) (fun v _ => ∃ q : Int, v = .int .i64 q ∧ Hid (q = X)) rfl (by kernel_rfl) (by exact ex_call (by exact rfl) Try.func12 (by kernel_rfl) (by kernel_rfl) (by simp only [List.map_toArray, List.map_cons, List.map_nil] <;> rfl)) ((check6_any d p _ (K5.rd.below hS (Nat.le_refl _) |>.more (Below.size hS))).mono (fun e w' ⟨⟨q, he, hq⟩, hb⟩ => ⟨_, he, ⟨q, rfl, Lib.hid (hq.out.trans hXH.out)⟩, hS.trans (hb.mono (Below.size hS))⟩)) ?_)
  rintro v W6 ⟨q, rfl, hq⟩ hS6
  obtain rfl : X = q := hq.out.symm
  clear hq
  simp only [Act.put, List.setIfInBounds_toArray, List.set_cons_zero, List.set_cons_succ]
  refine tk_one (by kernel_rfl) (op_callx (i := 29) (fun v _ => ∃ q : Int, v = .int .i64 q ∧ Hid (q = X)) rfl (by kernel_rfl) (by exact ex_call (by exact rfl) Try.func13 (by kernel_rfl) (by kernel_rfl) (by simp only [List.map_toArray, List.map_cons, List.map_nil] <;> rfl)) ((rcheck6_any d p _ (K5.rd.below hS6 (Nat.le_refl _) |>.more (Below.size hS6))).mono (fun e w' ⟨⟨q, he, hq⟩, hb⟩ => ⟨_, he, ⟨q, rfl, Lib.hid (hq.out.trans hXH.out)⟩, hS6.trans (hb.mono (Below.size hS6))⟩)) ?_)
  rintro v W7 ⟨q, rfl, hq⟩ hS7
  obtain rfl : X = q := hq.out.symm
  clear hq
  simp only [Act.put, List.setIfInBounds_toArray, List.set_cons_zero, List.set_cons_succ]
  refine tk (i := 30) (.bool true) hS7 rfl (by kernel_rfl) (by kernel_rfl) (by kernel_rfl) (fun _ _ _ h => h) (by kernel_rfl) (by intro _ _; exact eq_int_self (m := X) (by exact rfl) (by exact rfl) (by exact rfl)) ?_
  simp only [Act.put, List.setIfInBounds_toArray, List.set_cons_zero, List.set_cons_succ]
  refine tk (i := 31) (.bool true) hS7 rfl (by kernel_rfl) (by kernel_rfl) (by kernel_rfl) (fun _ _ _ h => h) (by kernel_rfl) (by intro _ _; exact rfl) ?_
  simp only [Act.put, List.setIfInBounds_toArray, List.set_cons_zero, List.set_cons_succ]
  refine tk (i := 32) (.bool true) hS7 rfl (by kernel_rfl) (by kernel_rfl) (by kernel_rfl) (fun _ _ _ h => h) (by kernel_rfl) (by intro _ _; exact rfl) ?_
  simp only [Act.put, List.setIfInBounds_toArray, List.set_cons_zero, List.set_cons_succ]
  refine tk_one (by kernel_rfl) (op_callx (i := 33) (fun v _ => v = .bool true) rfl (by kernel_rfl) (by exact ex_call (by exact rfl) Try.func14 (by kernel_rfl) (by kernel_rfl) (by simp only [List.map_toArray, List.map_cons, List.map_nil] <;> rfl)) ((alive6_any _).mono (fun e w' ⟨he, hb⟩ => ⟨_, he, rfl, hS7.trans (hb.mono (Below.size hS7))⟩)) ?_)
  rintro v W8 rfl hS8
  simp only [Act.put, List.setIfInBounds_toArray, List.set_cons_zero, List.set_cons_succ]
  refine tk (i := 34) (.bool true) hS8 rfl (by kernel_rfl) (by kernel_rfl) (by kernel_rfl) (fun _ _ _ h => h) (by kernel_rfl) (by intro _ _; exact rfl) ?_
  simp only [Act.put, List.setIfInBounds_toArray, List.set_cons_zero, List.set_cons_succ]
  refine tk (i := 35) (.bool true) hS8 rfl (by kernel_rfl) (by kernel_rfl) (by kernel_rfl) (fun _ _ _ h => h) (by kernel_rfl) (by intro _ _; exact rfl) ?_
  simp only [Act.put, List.setIfInBounds_toArray, List.set_cons_zero, List.set_cons_succ]
  refine wpAnyH_done (by kernel_rfl) ?_ _
  go_wp2
  go_ret
  exact ⟨rfl, hB.trans (hS8.mono hB.size)⟩
end Go.Proofs.Ytndmmkadceobjaa
