/-
  The walks of ipv6.Check and of the reference's.
-/
import Derived.Test.YtndmmkadceobjaaV6E
import Derived.Test.YtndmmkadceobjaaV6R
namespace Go.Proofs.Ytndmmkadceobjaa
open Go.RowKit Go.Shelf

set_option maxRecDepth 100000 in
set_option maxHeartbeats 4000000 in
theorem check6_any (d : D6) (p : W6) (w : World) (hR : Rd6 w.heap.size w d p) :
    Calls Try.prog 12 #[.agg (d.cells p)] w fun e w' => Num1 d.check e ∧ Below w.heap.size w w' := by
  have hB : Below w.heap.size w (w.alloc (.cells (d.cells p) 28)) := (Below.refl _ _).alloc (Nat.le_refl _) _
  have hH : Has (w.alloc (.cells (d.cells p) 28)) w.heap.size (.cells (d.cells p) 28 (0, 0)) := Has.newAt rfl
  obtain ⟨W1, hW1⟩ : ∃ W, w.alloc (.cells (d.cells p) 28) = W := ⟨_, rfl⟩
  rw [hW1] at hB hH
  have hR1 := (hR.below hB (Nat.le_refl _)).more hB.size
  have hbl := Nat.le_trans hR.body.cap hR.body.big
  have hz : (d.cells p).size = 42 := rfl
  obtain ⟨C, hC⟩ : ∃ C, d.check = C := ⟨_, rfl⟩
  rw [hC]
  go_enter Try.func12, Try.ntmps12
  go_wp2_with (refine wpList_load_row rfl 28 (.tmp 1) rfl w.heap.size rfl 28 (d.cells p) (0, 0) _ hH Try.underlying28 rfl v6_info ?_)
  refine (right_any d p W1 hR1).mono ?_
  rintro e w1 ⟨⟨q, rfl, hq⟩, hb1⟩
  cases hr : d.right with
  | false =>
    obtain rfl : q = false := hq.out.trans hr
    have hC : Hid (C = 54) := Lib.hid (by rw [← hC, D6.check, if_pos hr])
    clear hr hq
    go_wp2
    go_ret
    exact ⟨Num1.mk hC.out.symm, hB.trans (hb1.mono hB.size)⟩
  | true =>
  obtain rfl : q = true := hq.out.trans hr
  have hsm := (D6.ahead_le hr).1
  have ha2 := (D6.ahead_le hr).2.1
  have ha3 := (D6.ahead_le hr).2.2
  obtain ⟨X, hX⟩ : ∃ X, d.ahead = X := ⟨_, rfl⟩
  rw [hX] at ha2 ha3
  clear hq hW1
  by_cases hlong : 65535 < d.bl.length + (X - 40)
  · have hC : Hid (C = 2) := Lib.hid (by rw [← hC, D6.check, if_neg (by simp [hr]), if_pos (by omega)])
    clear hr
    go_wp2
    refine wp_region_held_drew (S := fun W => Below W1.heap.size W1 W) (by kernel_rfl) (hb1.trans (below_drew _ _)) (fun hS => ?_)
    refine tk (i := 0) (.pointer (some ⟨w.heap.size, 41, none⟩)) hS rfl (by kernel_rfl) (by kernel_rfl) (by kernel_rfl) (fun _ _ _ h => h) (by kernel_rfl) (by intro _ _; exact ex_field 41 0 (by exact rfl) Try.underlying28 (by exact rfl) rfl (by kernel_rfl) (by exact rfl)) ?_
    simp only [Act.put, List.setIfInBounds_toArray, List.set_cons_zero, List.set_cons_succ]
    refine tk (i := 1) (.slice p.bA d.bl.length p.bc) hS rfl (by kernel_rfl) (by kernel_rfl) (by kernel_rfl) (fun _ _ _ h => h) (by kernel_rfl) (by intro _ h; exact ex_cell (by exact rfl) Try.underlying26 rfl (by exact rfl) ((hH.below h hH.lt).cell 41 rfl)) ?_
    simp only [Act.put, List.setIfInBounds_toArray, List.set_cons_zero, List.set_cons_succ]
    refine tk (i := 2) (.int .i64 (d.bl.length : Int)) hS rfl (by kernel_rfl) (by kernel_rfl) (by kernel_rfl) (fun _ _ _ h => h) (by kernel_rfl) (by intro _ _; exact ex_len (by exact rfl) Try.underlying26 (by exact rfl)) ?_
    simp only [Act.put, List.setIfInBounds_toArray, List.set_cons_zero, List.set_cons_succ]
    refine tk (i := 3) (.agg (d.cells p)) hS rfl (by kernel_rfl) (by kernel_rfl) (by kernel_rfl) (fun _ _ _ h => h) (by kernel_rfl) (by intro _ h; exact ex_load (by exact rfl) (by exact rfl) (((hH.below h hH.lt)).load (P := Try.prog) 28 Try.underlying28 rfl v6_info)) ?_
    simp only [Act.put, List.setIfInBounds_toArray, List.set_cons_zero, List.set_cons_succ]
    refine tk_callx (i := 4) (fun v _ => ∃ q : Int, v = .int .i64 q ∧ Hid (q = d.ahead)) (by kernel_rfl) rfl (by kernel_rfl) (by exact ex_call (by exact rfl) Try.func25 (by kernel_rfl) (by kernel_rfl) (by simp only [List.map_toArray, List.map_cons, List.map_nil] <;> rfl)) ((ahead_any d p _ ((hR1.below hS (Nat.le_refl _)).more hS.size) hsm).mono (fun e w' ⟨⟨q, he, hq⟩, hb⟩ => ⟨_, he, ⟨q, rfl, hq⟩, hS.trans (hb.mono hS.size)⟩)) ?_
    rintro v W6 ⟨q, rfl, hq⟩ hS6
    obtain rfl : q = (X : Int) := hq.out.trans (by rw [hX])
    simp only [Act.put, List.setIfInBounds_toArray, List.set_cons_zero, List.set_cons_succ]
    refine tk (i := 5) (.int .i64 ((X : Int) - 40)) hS6 rfl (by kernel_rfl) (by kernel_rfl) (by kernel_rfl) (fun _ _ _ h => h) (by kernel_rfl) (by intro _ _; exact ex_bin (by exact rfl) (by exact rfl) (by exact rfl) (by decide) (b_sub _ _ rfl (by omega) _)) ?_
    simp only [Act.put, List.setIfInBounds_toArray, List.set_cons_zero, List.set_cons_succ]
    refine tk (i := 6) (.int .i64 (65535 - ((X : Int) - 40))) hS6 rfl (by kernel_rfl) (by kernel_rfl) (by kernel_rfl) (fun _ _ _ h => h) (by kernel_rfl) (by intro _ _; exact ex_bin (by exact rfl) (by exact rfl) (by exact rfl) (by decide) (b_sub _ _ rfl (by omega) _)) ?_
    simp only [Act.put, List.setIfInBounds_toArray, List.set_cons_zero, List.set_cons_succ]
    refine tk (i := 7) (.bool true) hS6 rfl (by kernel_rfl) (by kernel_rfl) (by kernel_rfl) (fun _ _ _ h => h) (by kernel_rfl) (by intro _ _; exact ex_bin (by exact rfl) (by exact rfl) (by exact rfl) (by decide) (b_gtr _ _ (decide_eq_true (by omega)) _)) ?_
    simp only [Act.put, List.setIfInBounds_toArray, List.set_cons_zero, List.set_cons_succ]
    refine wpAnyH_done (by kernel_rfl) ?_ _
    go_wp2
    go_ret
    exact ⟨Num1.mk hC.out.symm, hB.trans (hS6.mono hB.size)⟩
  · have hC : Hid (C = 0) := Lib.hid (by rw [← hC, D6.check, if_neg (by simp [hr]), if_neg (by omega)])
    clear hr
    go_wp2
    refine wp_region_held_drew (S := fun W => Below W1.heap.size W1 W) (by kernel_rfl) (hb1.trans (below_drew _ _)) (fun hS => ?_)
    refine tk (i := 0) (.pointer (some ⟨w.heap.size, 41, none⟩)) hS rfl (by kernel_rfl) (by kernel_rfl) (by kernel_rfl) (fun _ _ _ h => h) (by kernel_rfl) (by intro _ _; exact ex_field 41 0 (by exact rfl) Try.underlying28 (by exact rfl) rfl (by kernel_rfl) (by exact rfl)) ?_
    simp only [Act.put, List.setIfInBounds_toArray, List.set_cons_zero, List.set_cons_succ]
    refine tk (i := 1) (.slice p.bA d.bl.length p.bc) hS rfl (by kernel_rfl) (by kernel_rfl) (by kernel_rfl) (fun _ _ _ h => h) (by kernel_rfl) (by intro _ h; exact ex_cell (by exact rfl) Try.underlying26 rfl (by exact rfl) ((hH.below h hH.lt).cell 41 rfl)) ?_
    simp only [Act.put, List.setIfInBounds_toArray, List.set_cons_zero, List.set_cons_succ]
    refine tk (i := 2) (.int .i64 (d.bl.length : Int)) hS rfl (by kernel_rfl) (by kernel_rfl) (by kernel_rfl) (fun _ _ _ h => h) (by kernel_rfl) (by intro _ _; exact ex_len (by exact rfl) Try.underlying26 (by exact rfl)) ?_
    simp only [Act.put, List.setIfInBounds_toArray, List.set_cons_zero, List.set_cons_succ]
    refine tk (i := 3) (.agg (d.cells p)) hS rfl (by kernel_rfl) (by kernel_rfl) (by kernel_rfl) (fun _ _ _ h => h) (by kernel_rfl) (by intro _ h; exact ex_load (by exact rfl) (by exact rfl) (((hH.below h hH.lt)).load (P := Try.prog) 28 Try.underlying28 rfl v6_info)) ?_
    simp only [Act.put, List.setIfInBounds_toArray, List.set_cons_zero, List.set_cons_succ]
    refine tk_callx (i := 4) (fun v _ => ∃ q : Int, v = .int .i64 q ∧ Hid (q = d.ahead)) (by kernel_rfl) rfl (by kernel_rfl) (by exact ex_call (by exact rfl) Try.func25 (by kernel_rfl) (by kernel_rfl) (by simp only [List.map_toArray, List.map_cons, List.map_nil] <;> rfl)) ((ahead_any d p _ ((hR1.below hS (Nat.le_refl _)).more hS.size) hsm).mono (fun e w' ⟨⟨q, he, hq⟩, hb⟩ => ⟨_, he, ⟨q, rfl, hq⟩, hS.trans (hb.mono hS.size)⟩)) ?_
    rintro v W6 ⟨q, rfl, hq⟩ hS6
    obtain rfl : q = (X : Int) := hq.out.trans (by rw [hX])
    simp only [Act.put, List.setIfInBounds_toArray, List.set_cons_zero, List.set_cons_succ]
    refine tk (i := 5) (.int .i64 ((X : Int) - 40)) hS6 rfl (by kernel_rfl) (by kernel_rfl) (by kernel_rfl) (fun _ _ _ h => h) (by kernel_rfl) (by intro _ _; exact ex_bin (by exact rfl) (by exact rfl) (by exact rfl) (by decide) (b_sub _ _ rfl (by omega) _)) ?_
    simp only [Act.put, List.setIfInBounds_toArray, List.set_cons_zero, List.set_cons_succ]
    refine tk (i := 6) (.int .i64 (65535 - ((X : Int) - 40))) hS6 rfl (by kernel_rfl) (by kernel_rfl) (by kernel_rfl) (fun _ _ _ h => h) (by kernel_rfl) (by intro _ _; exact ex_bin (by exact rfl) (by exact rfl) (by exact rfl) (by decide) (b_sub _ _ rfl (by omega) _)) ?_
    simp only [Act.put, List.setIfInBounds_toArray, List.set_cons_zero, List.set_cons_succ]
    refine tk (i := 7) (.bool false) hS6 rfl (by kernel_rfl) (by kernel_rfl) (by kernel_rfl) (fun _ _ _ h => h) (by kernel_rfl) (by intro _ _; exact ex_bin (by exact rfl) (by exact rfl) (by exact rfl) (by decide) (b_gtr _ _ (decide_eq_false (by omega)) _)) ?_
    simp only [Act.put, List.setIfInBounds_toArray, List.set_cons_zero, List.set_cons_succ]
    refine wpAnyH_done (by kernel_rfl) ?_ _
    go_wp2
    go_ret
    exact ⟨Num1.mk hC.out.symm, hB.trans (hS6.mono hB.size)⟩

set_option maxRecDepth 100000 in
set_option maxHeartbeats 4000000 in
theorem rcheck6_any (d : D6) (p : W6) (w : World) (hR : Rd6 w.heap.size w d p) :
    Calls Try.prog 13 #[.agg (d.cells p)] w fun e w' => Num1 d.check e ∧ Below w.heap.size w w' := by
  have hB : Below w.heap.size w (w.alloc (.cells (d.cells p) 28)) := (Below.refl _ _).alloc (Nat.le_refl _) _
  have hH : Has (w.alloc (.cells (d.cells p) 28)) w.heap.size (.cells (d.cells p) 28 (0, 0)) := Has.newAt rfl
  obtain ⟨W1, hW1⟩ : ∃ W, w.alloc (.cells (d.cells p) 28) = W := ⟨_, rfl⟩
  rw [hW1] at hB hH
  have hR1 := (hR.below hB (Nat.le_refl _)).more hB.size
  have hbl := Nat.le_trans hR.body.cap hR.body.big
  have hz : (d.cells p).size = 42 := rfl
  obtain ⟨C, hC⟩ : ∃ C, d.check = C := ⟨_, rfl⟩
  rw [hC]
  go_enter Try.func13, Try.ntmps13
  go_wp2_with (refine wpList_load_row rfl 28 (.tmp 1) rfl w.heap.size rfl 28 (d.cells p) (0, 0) _ hH Try.underlying28 rfl v6_info ?_)
  refine (rright_any d p W1 hR1).mono ?_
  rintro e w1 ⟨⟨q, rfl, hq⟩, hb1⟩
  cases hr : d.right with
  | false =>
    obtain rfl : q = false := hq.out.trans hr
    have hC : Hid (C = 54) := Lib.hid (by rw [← hC, D6.check, if_pos hr])
    clear hr hq
    go_wp2
    go_ret
    exact ⟨Num1.mk hC.out.symm, hB.trans (hb1.mono hB.size)⟩
  | true =>
  obtain rfl : q = true := hq.out.trans hr
  have hsm := (D6.ahead_le hr).1
  have ha2 := (D6.ahead_le hr).2.1
  have ha3 := (D6.ahead_le hr).2.2
  obtain ⟨X, hX⟩ : ∃ X, d.ahead = X := ⟨_, rfl⟩
  rw [hX] at ha2 ha3
  clear hq hW1
  by_cases hlg : 65535 < d.bl.length
  · have hC : Hid (C = 2) := Lib.hid (by rw [← hC, D6.check, if_neg (by simp [hr]), if_pos (by omega)])
    clear hr
    go_wp2
    refine wp_region_held_drew (S := fun W => Below W1.heap.size W1 W) (by kernel_rfl) (hb1.trans (below_drew _ _)) (fun hS => ?_)
    refine tk (i := 0) (.pointer (some ⟨w.heap.size, 41, none⟩)) hS rfl (by kernel_rfl) (by kernel_rfl) (by kernel_rfl) (fun _ _ _ h => h) (by kernel_rfl) (by intro _ _; exact ex_field 41 0 (by exact rfl) Try.underlying28 (by exact rfl) rfl (by kernel_rfl) (by exact rfl)) ?_
    simp only [Act.put, List.setIfInBounds_toArray, List.set_cons_zero, List.set_cons_succ]
    refine tk (i := 1) (.slice p.bA d.bl.length p.bc) hS rfl (by kernel_rfl) (by kernel_rfl) (by kernel_rfl) (fun _ _ _ h => h) (by kernel_rfl) (by intro _ h; exact ex_cell (by exact rfl) Try.underlying26 rfl (by exact rfl) ((hH.below h hH.lt).cell 41 rfl)) ?_
    simp only [Act.put, List.setIfInBounds_toArray, List.set_cons_zero, List.set_cons_succ]
    refine tk (i := 2) (.int .i64 (d.bl.length : Int)) hS rfl (by kernel_rfl) (by kernel_rfl) (by kernel_rfl) (fun _ _ _ h => h) (by kernel_rfl) (by intro _ _; exact ex_len (by exact rfl) Try.underlying26 (by exact rfl)) ?_
    simp only [Act.put, List.setIfInBounds_toArray, List.set_cons_zero, List.set_cons_succ]
    refine tk (i := 3) (.bool true) hS rfl (by kernel_rfl) (by kernel_rfl) (by kernel_rfl) (fun _ _ _ h => h) (by kernel_rfl) (by intro _ _; exact ex_bin (by exact rfl) (by exact rfl) (by exact rfl) (by decide) (b_gtr _ _ (decide_eq_true (by omega)) _)) ?_
    simp only [Act.put, List.setIfInBounds_toArray, List.set_cons_zero, List.set_cons_succ]
    refine tk (i := 4) (.bool true) hS rfl (by kernel_rfl) (by kernel_rfl) (by kernel_rfl) (fun _ _ _ h => h) (by kernel_rfl) (by intro _ _; exact rfl) ?_
    simp only [Act.put, List.setIfInBounds_toArray, List.set_cons_zero, List.set_cons_succ]
    refine tkn (i := 5) hS rfl (by kernel_rfl) (by kernel_rfl) (by kernel_rfl) (fun _ _ _ h => h) (by kernel_rfl) ?_
    simp only [Act.put, List.setIfInBounds_toArray, List.set_cons_zero, List.set_cons_succ]
    refine tkn (i := 6) hS rfl (by kernel_rfl) (by kernel_rfl) (by kernel_rfl) (fun _ _ _ h => h) (by kernel_rfl) ?_
    simp only [Act.put, List.setIfInBounds_toArray, List.set_cons_zero, List.set_cons_succ]
    refine tkn (i := 7) hS rfl (by kernel_rfl) (by kernel_rfl) (by kernel_rfl) (fun _ _ _ h => h) (by kernel_rfl) ?_
    simp only [Act.put, List.setIfInBounds_toArray, List.set_cons_zero, List.set_cons_succ]
    refine tkn (i := 8) hS rfl (by kernel_rfl) (by kernel_rfl) (by kernel_rfl) (fun _ _ _ h => h) (by kernel_rfl) ?_
    simp only [Act.put, List.setIfInBounds_toArray, List.set_cons_zero, List.set_cons_succ]
    refine tkn (i := 9) hS rfl (by kernel_rfl) (by kernel_rfl) (by kernel_rfl) (fun _ _ _ h => h) (by kernel_rfl) ?_
    simp only [Act.put, List.setIfInBounds_toArray, List.set_cons_zero, List.set_cons_succ]
    refine tkn (i := 10) hS rfl (by kernel_rfl) (by kernel_rfl) (by kernel_rfl) (fun _ _ _ h => h) (by kernel_rfl) ?_
    simp only [Act.put, List.setIfInBounds_toArray, List.set_cons_zero, List.set_cons_succ]
    refine tkn (i := 11) hS rfl (by kernel_rfl) (by kernel_rfl) (by kernel_rfl) (fun _ _ _ h => h) (by kernel_rfl) ?_
    simp only [Act.put, List.setIfInBounds_toArray, List.set_cons_zero, List.set_cons_succ]
    refine tkn (i := 12) hS rfl (by kernel_rfl) (by kernel_rfl) (by kernel_rfl) (fun _ _ _ h => h) (by kernel_rfl) ?_
    simp only [Act.put, List.setIfInBounds_toArray, List.set_cons_zero, List.set_cons_succ]
    refine tk (i := 13) (.bool true) hS rfl (by kernel_rfl) (by kernel_rfl) (by kernel_rfl) (fun _ _ _ h => h) (by kernel_rfl) (by intro _ _; exact rfl) ?_
    simp only [Act.put, List.setIfInBounds_toArray, List.set_cons_zero, List.set_cons_succ]
    refine wpAnyH_done (by kernel_rfl) ?_ _
    go_wp2
    go_ret
    exact ⟨Num1.mk hC.out.symm, hB.trans (hS.mono hB.size)⟩
  by_cases hlong : 65535 < d.bl.length + (X - 40)
  · have hC : Hid (C = 2) := Lib.hid (by rw [← hC, D6.check, if_neg (by simp [hr]), if_pos (by omega)])
    clear hr
    go_wp2
    refine wp_region_held_drew (S := fun W => Below W1.heap.size W1 W) (by kernel_rfl) (hb1.trans (below_drew _ _)) (fun hS => ?_)
    refine tk (i := 0) (.pointer (some ⟨w.heap.size, 41, none⟩)) hS rfl (by kernel_rfl) (by kernel_rfl) (by kernel_rfl) (fun _ _ _ h => h) (by kernel_rfl) (by intro _ _; exact ex_field 41 0 (by exact rfl) Try.underlying28 (by exact rfl) rfl (by kernel_rfl) (by exact rfl)) ?_
    simp only [Act.put, List.setIfInBounds_toArray, List.set_cons_zero, List.set_cons_succ]
    refine tk (i := 1) (.slice p.bA d.bl.length p.bc) hS rfl (by kernel_rfl) (by kernel_rfl) (by kernel_rfl) (fun _ _ _ h => h) (by kernel_rfl) (by intro _ h; exact ex_cell (by exact rfl) Try.underlying26 rfl (by exact rfl) ((hH.below h hH.lt).cell 41 rfl)) ?_
    simp only [Act.put, List.setIfInBounds_toArray, List.set_cons_zero, List.set_cons_succ]
    refine tk (i := 2) (.int .i64 (d.bl.length : Int)) hS rfl (by kernel_rfl) (by kernel_rfl) (by kernel_rfl) (fun _ _ _ h => h) (by kernel_rfl) (by intro _ _; exact ex_len (by exact rfl) Try.underlying26 (by exact rfl)) ?_
    simp only [Act.put, List.setIfInBounds_toArray, List.set_cons_zero, List.set_cons_succ]
    refine tk (i := 3) (.bool false) hS rfl (by kernel_rfl) (by kernel_rfl) (by kernel_rfl) (fun _ _ _ h => h) (by kernel_rfl) (by intro _ _; exact ex_bin (by exact rfl) (by exact rfl) (by exact rfl) (by decide) (b_gtr _ _ (decide_eq_false (by omega)) _)) ?_
    simp only [Act.put, List.setIfInBounds_toArray, List.set_cons_zero, List.set_cons_succ]
    refine tk (i := 4) (.bool false) hS rfl (by kernel_rfl) (by kernel_rfl) (by kernel_rfl) (fun _ _ _ h => h) (by kernel_rfl) (by intro _ _; exact rfl) ?_
    simp only [Act.put, List.setIfInBounds_toArray, List.set_cons_zero, List.set_cons_succ]
    refine tk (i := 5) (.agg (d.cells p)) hS rfl (by kernel_rfl) (by kernel_rfl) (by kernel_rfl) (fun _ _ _ h => h) (by kernel_rfl) (by intro _ h; exact ex_load (by exact rfl) (by exact rfl) (((hH.below h hH.lt)).load (P := Try.prog) 28 Try.underlying28 rfl v6_info)) ?_
    simp only [Act.put, List.setIfInBounds_toArray, List.set_cons_zero, List.set_cons_succ]
    refine tk (i := 8) (.pointer (some ⟨w.heap.size, 41, none⟩)) hS rfl (by kernel_rfl) (by kernel_rfl) (by kernel_rfl) (fun _ _ _ h => h) (by kernel_rfl) (by intro _ _; exact ex_field 41 0 (by exact rfl) Try.underlying28 (by exact rfl) rfl (by kernel_rfl) (by exact rfl)) ?_
    simp only [Act.put, List.setIfInBounds_toArray, List.set_cons_zero, List.set_cons_succ]
    refine tk (i := 9) (.slice p.bA d.bl.length p.bc) hS rfl (by kernel_rfl) (by kernel_rfl) (by kernel_rfl) (fun _ _ _ h => h) (by kernel_rfl) (by intro _ h; exact ex_cell (by exact rfl) Try.underlying26 rfl (by exact rfl) ((hH.below h hH.lt).cell 41 rfl)) ?_
    simp only [Act.put, List.setIfInBounds_toArray, List.set_cons_zero, List.set_cons_succ]
    refine tk (i := 10) (.int .i64 (d.bl.length : Int)) hS rfl (by kernel_rfl) (by kernel_rfl) (by kernel_rfl) (fun _ _ _ h => h) (by kernel_rfl) (by intro _ _; exact ex_len (by exact rfl) Try.underlying26 (by exact rfl)) ?_
    simp only [Act.put, List.setIfInBounds_toArray, List.set_cons_zero, List.set_cons_succ]
    refine tk_callx (i := 6) (fun v _ => ∃ q : Int, v = .int .i64 q ∧ Hid (q = d.ahead)) (by kernel_rfl) rfl (by kernel_rfl) (by exact ex_call (by exact rfl) Try.func23 (by kernel_rfl) (by kernel_rfl) (by simp only [List.map_toArray, List.map_cons, List.map_nil] <;> rfl)) ((rheads_any d p _ ((hR1.below hS (Nat.le_refl _)).more hS.size) hsm).mono (fun e w' ⟨⟨q, he, hq⟩, hb⟩ => ⟨_, he, ⟨q, rfl, hq⟩, hS.trans (hb.mono hS.size)⟩)) ?_
    rintro v W6 ⟨q, rfl, hq⟩ hS6
    obtain rfl : q = (X : Int) := hq.out.trans (by rw [hX])
    simp only [Act.put, List.setIfInBounds_toArray, List.set_cons_zero, List.set_cons_succ]
    refine tk (i := 7) (.int .i64 ((X : Int) - 40)) hS6 rfl (by kernel_rfl) (by kernel_rfl) (by kernel_rfl) (fun _ _ _ h => h) (by kernel_rfl) (by intro _ _; exact ex_bin (by exact rfl) (by exact rfl) (by exact rfl) (by decide) (b_sub _ _ rfl (by omega) _)) ?_
    simp only [Act.put, List.setIfInBounds_toArray, List.set_cons_zero, List.set_cons_succ]
    refine tk (i := 11) (.int .i64 ((X : Int) - 40 + (d.bl.length : Int))) hS6 rfl (by kernel_rfl) (by kernel_rfl) (by kernel_rfl) (fun _ _ _ h => h) (by kernel_rfl) (by intro _ _; exact ex_bin (by exact rfl) (by exact rfl) (by exact rfl) (by decide) (b_add _ _ rfl (by omega) _)) ?_
    simp only [Act.put, List.setIfInBounds_toArray, List.set_cons_zero, List.set_cons_succ]
    refine tk (i := 12) (.bool true) hS6 rfl (by kernel_rfl) (by kernel_rfl) (by kernel_rfl) (fun _ _ _ h => h) (by kernel_rfl) (by intro _ _; exact ex_bin (by exact rfl) (by exact rfl) (by exact rfl) (by decide) (b_gtr _ _ (decide_eq_true (by omega)) _)) ?_
    simp only [Act.put, List.setIfInBounds_toArray, List.set_cons_zero, List.set_cons_succ]
    refine tk (i := 13) (.bool true) hS6 rfl (by kernel_rfl) (by kernel_rfl) (by kernel_rfl) (fun _ _ _ h => h) (by kernel_rfl) (by intro _ _; exact rfl) ?_
    simp only [Act.put, List.setIfInBounds_toArray, List.set_cons_zero, List.set_cons_succ]
    refine wpAnyH_done (by kernel_rfl) ?_ _
    go_wp2
    go_ret
    exact ⟨Num1.mk hC.out.symm, hB.trans (hS6.mono hB.size)⟩
  · have hC : Hid (C = 0) := Lib.hid (by rw [← hC, D6.check, if_neg (by simp [hr]), if_neg (by omega)])
    clear hr
    go_wp2
    refine wp_region_held_drew (S := fun W => Below W1.heap.size W1 W) (by kernel_rfl) (hb1.trans (below_drew _ _)) (fun hS => ?_)
    refine tk (i := 0) (.pointer (some ⟨w.heap.size, 41, none⟩)) hS rfl (by kernel_rfl) (by kernel_rfl) (by kernel_rfl) (fun _ _ _ h => h) (by kernel_rfl) (by intro _ _; exact ex_field 41 0 (by exact rfl) Try.underlying28 (by exact rfl) rfl (by kernel_rfl) (by exact rfl)) ?_
    simp only [Act.put, List.setIfInBounds_toArray, List.set_cons_zero, List.set_cons_succ]
    refine tk (i := 1) (.slice p.bA d.bl.length p.bc) hS rfl (by kernel_rfl) (by kernel_rfl) (by kernel_rfl) (fun _ _ _ h => h) (by kernel_rfl) (by intro _ h; exact ex_cell (by exact rfl) Try.underlying26 rfl (by exact rfl) ((hH.below h hH.lt).cell 41 rfl)) ?_
    simp only [Act.put, List.setIfInBounds_toArray, List.set_cons_zero, List.set_cons_succ]
    refine tk (i := 2) (.int .i64 (d.bl.length : Int)) hS rfl (by kernel_rfl) (by kernel_rfl) (by kernel_rfl) (fun _ _ _ h => h) (by kernel_rfl) (by intro _ _; exact ex_len (by exact rfl) Try.underlying26 (by exact rfl)) ?_
    simp only [Act.put, List.setIfInBounds_toArray, List.set_cons_zero, List.set_cons_succ]
    refine tk (i := 3) (.bool false) hS rfl (by kernel_rfl) (by kernel_rfl) (by kernel_rfl) (fun _ _ _ h => h) (by kernel_rfl) (by intro _ _; exact ex_bin (by exact rfl) (by exact rfl) (by exact rfl) (by decide) (b_gtr _ _ (decide_eq_false (by omega)) _)) ?_
    simp only [Act.put, List.setIfInBounds_toArray, List.set_cons_zero, List.set_cons_succ]
    refine tk (i := 4) (.bool false) hS rfl (by kernel_rfl) (by kernel_rfl) (by kernel_rfl) (fun _ _ _ h => h) (by kernel_rfl) (by intro _ _; exact rfl) ?_
    simp only [Act.put, List.setIfInBounds_toArray, List.set_cons_zero, List.set_cons_succ]
    refine tk (i := 5) (.agg (d.cells p)) hS rfl (by kernel_rfl) (by kernel_rfl) (by kernel_rfl) (fun _ _ _ h => h) (by kernel_rfl) (by intro _ h; exact ex_load (by exact rfl) (by exact rfl) (((hH.below h hH.lt)).load (P := Try.prog) 28 Try.underlying28 rfl v6_info)) ?_
    simp only [Act.put, List.setIfInBounds_toArray, List.set_cons_zero, List.set_cons_succ]
    refine tk (i := 8) (.pointer (some ⟨w.heap.size, 41, none⟩)) hS rfl (by kernel_rfl) (by kernel_rfl) (by kernel_rfl) (fun _ _ _ h => h) (by kernel_rfl) (by intro _ _; exact ex_field 41 0 (by exact rfl) Try.underlying28 (by exact rfl) rfl (by kernel_rfl) (by exact rfl)) ?_
    simp only [Act.put, List.setIfInBounds_toArray, List.set_cons_zero, List.set_cons_succ]
    refine tk (i := 9) (.slice p.bA d.bl.length p.bc) hS rfl (by kernel_rfl) (by kernel_rfl) (by kernel_rfl) (fun _ _ _ h => h) (by kernel_rfl) (by intro _ h; exact ex_cell (by exact rfl) Try.underlying26 rfl (by exact rfl) ((hH.below h hH.lt).cell 41 rfl)) ?_
    simp only [Act.put, List.setIfInBounds_toArray, List.set_cons_zero, List.set_cons_succ]
    refine tk (i := 10) (.int .i64 (d.bl.length : Int)) hS rfl (by kernel_rfl) (by kernel_rfl) (by kernel_rfl) (fun _ _ _ h => h) (by kernel_rfl) (by intro _ _; exact ex_len (by exact rfl) Try.underlying26 (by exact rfl)) ?_
    simp only [Act.put, List.setIfInBounds_toArray, List.set_cons_zero, List.set_cons_succ]
    refine tk_callx (i := 6) (fun v _ => ∃ q : Int, v = .int .i64 q ∧ Hid (q = d.ahead)) (by kernel_rfl) rfl (by kernel_rfl) (by exact ex_call (by exact rfl) Try.func23 (by kernel_rfl) (by kernel_rfl) (by simp only [List.map_toArray, List.map_cons, List.map_nil] <;> rfl)) ((rheads_any d p _ ((hR1.below hS (Nat.le_refl _)).more hS.size) hsm).mono (fun e w' ⟨⟨q, he, hq⟩, hb⟩ => ⟨_, he, ⟨q, rfl, hq⟩, hS.trans (hb.mono hS.size)⟩)) ?_
    rintro v W6 ⟨q, rfl, hq⟩ hS6
    obtain rfl : q = (X : Int) := hq.out.trans (by rw [hX])
    simp only [Act.put, List.setIfInBounds_toArray, List.set_cons_zero, List.set_cons_succ]
    refine tk (i := 7) (.int .i64 ((X : Int) - 40)) hS6 rfl (by kernel_rfl) (by kernel_rfl) (by kernel_rfl) (fun _ _ _ h => h) (by kernel_rfl) (by intro _ _; exact ex_bin (by exact rfl) (by exact rfl) (by exact rfl) (by decide) (b_sub _ _ rfl (by omega) _)) ?_
    simp only [Act.put, List.setIfInBounds_toArray, List.set_cons_zero, List.set_cons_succ]
    refine tk (i := 11) (.int .i64 ((X : Int) - 40 + (d.bl.length : Int))) hS6 rfl (by kernel_rfl) (by kernel_rfl) (by kernel_rfl) (fun _ _ _ h => h) (by kernel_rfl) (by intro _ _; exact ex_bin (by exact rfl) (by exact rfl) (by exact rfl) (by decide) (b_add _ _ rfl (by omega) _)) ?_
    simp only [Act.put, List.setIfInBounds_toArray, List.set_cons_zero, List.set_cons_succ]
    refine tk (i := 12) (.bool false) hS6 rfl (by kernel_rfl) (by kernel_rfl) (by kernel_rfl) (fun _ _ _ h => h) (by kernel_rfl) (by intro _ _; exact ex_bin (by exact rfl) (by exact rfl) (by exact rfl) (by decide) (b_gtr _ _ (decide_eq_false (by omega)) _)) ?_
    simp only [Act.put, List.setIfInBounds_toArray, List.set_cons_zero, List.set_cons_succ]
    refine tk (i := 13) (.bool false) hS6 rfl (by kernel_rfl) (by kernel_rfl) (by kernel_rfl) (fun _ _ _ h => h) (by kernel_rfl) (by intro _ _; exact rfl) ?_
    simp only [Act.put, List.setIfInBounds_toArray, List.set_cons_zero, List.set_cons_succ]
    refine wpAnyH_done (by kernel_rfl) ?_ _
    go_wp2
    go_ret
    exact ⟨Num1.mk hC.out.symm, hB.trans (hS6.mono hB.size)⟩

end Go.Proofs.Ytndmmkadceobjaa
