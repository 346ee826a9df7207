/-
  The walk of Ipv6Back.
-/
import Derived.Test.YtndmmkadceobjaaV6AL
import Derived.Test.YtndmmkadceobjaaV6SB
namespace Go.Proofs.Ytndmmkadceobjaa
open Go.RowKit Go.Shelf

section
variable {P : Program}
theorem ex_notb {ρ : Operand → Value} {o : Oper} {t : TypeId} {x : Operand} {b : Bool} {w : World} (ho : o.op = .unOp .not t x) (hx : ρ x = .bool b) : (execOp ρ o).run P w = .ok (.value (.bool (!b))) w := by
  unfold execOp
  simp only [ho, hx, Sem.run_bind]
  rfl
end
set_option maxRecDepth 100000 in
set_option maxHeartbeats 4000000 in
theorem back6_walk (d d' : D6) (p p' : W6) (w : World) (hR : Rd6 w.heap.size w d p) (hR' : Rd6 w.heap.size w d' p') :
    Calls Try.prog 7 #[.agg (d.cells p), .agg (d'.cells p')] w fun e w' => e = .returned (.bool true) ∧ Below w.heap.size w w' := by
  obtain ⟨W1, hW1⟩ : ∃ W, w.alloc (.cells (d.cells p) 28) = W := ⟨_, rfl⟩
  obtain ⟨W2, hW2⟩ : ∃ W, W1.alloc (.cells (d'.cells p') 28) = W := ⟨_, rfl⟩
  have hs1 : W1.heap.size = w.heap.size + 1 := by rw [← hW1]; simp
  obtain ⟨K0, hB⟩ := K6.arg hR
  rw [hW1] at K0 hB
  obtain ⟨K1, hb⟩ := K6.arg ((hR'.below hB (Nat.le_refl _)).more hB.size)
  rw [hW2, hs1] at K1
  rw [hW2] at hb
  have K0 := K0.below hb
  have hB := hB.trans (hb.mono hB.size)
  obtain ⟨V, hV⟩ : ∃ V, same6 d d' = V := ⟨_, rfl⟩
  have hVH := Lib.hid hV
  have hok := hR.ok
  clear hV hb hR hR'
  go_enter Try.func7, Try.ntmps7
  go_wp2
  refine wp_region_held_drew (S := fun W => Below W2.heap.size W2 W) (by kernel_rfl) (below_drew _ _) (fun hS => ?_)
  refine tk (i := 0) (.agg (d.cells p)) hS rfl (by kernel_rfl) (by kernel_rfl) (by kernel_rfl) (fun _ _ _ h => h) (by kernel_rfl) (by intro _ h; exact ex_load (by exact rfl) (by exact rfl) (((K0.has.below h K0.has.lt).load (P := Try.prog) 28 Try.underlying28 rfl v6_info))) ?_
  simp only [Act.put, List.setIfInBounds_toArray, List.set_cons_zero, List.set_cons_succ]
  refine tk (i := 1) (.agg (d'.cells p')) hS rfl (by kernel_rfl) (by kernel_rfl) (by kernel_rfl) (fun _ _ _ h => h) (by kernel_rfl) (by intro _ h; exact ex_load (by exact rfl) (by exact rfl) (((K1.has.below h K1.has.lt).load (P := Try.prog) 28 Try.underlying28 rfl v6_info))) ?_
  simp only [Act.put, List.setIfInBounds_toArray, List.set_cons_zero, List.set_cons_succ]
  refine tk (i := 3) (.agg (d.cells p)) hS rfl (by kernel_rfl) (by kernel_rfl) (by kernel_rfl) (fun _ _ _ h => h) (by kernel_rfl) (by intro _ h; exact ex_load (by exact rfl) (by exact rfl) (((K0.has.below h K0.has.lt).load (P := Try.prog) 28 Try.underlying28 rfl v6_info))) ?_
  simp only [Act.put, List.setIfInBounds_toArray, List.set_cons_zero, List.set_cons_succ]
  refine tk (i := 4) (.agg (d'.cells p')) hS rfl (by kernel_rfl) (by kernel_rfl) (by kernel_rfl) (fun _ _ _ h => h) (by kernel_rfl) (by intro _ h; exact ex_load (by exact rfl) (by exact rfl) (((K1.has.below h K1.has.lt).load (P := Try.prog) 28 Try.underlying28 rfl v6_info))) ?_
  simp only [Act.put, List.setIfInBounds_toArray, List.set_cons_zero, List.set_cons_succ]
  refine tk_one (by kernel_rfl) (op_callx (i := 2) (fun v _ => ∃ q : Bool, v = .bool q ∧ Hid (q = V)) rfl (by kernel_rfl) (by exact ex_call (by exact rfl) Try.func20 (by kernel_rfl) (by kernel_rfl) (by simp only [List.map_toArray, List.map_cons, List.map_nil] <;> rfl)) ((same6_any d d' p p' _ (K0.rd.below hS (Nat.le_refl _) |>.more (Below.size hS)) (K1.rd.below hS (Nat.le_refl _) |>.more (Below.size hS))).mono (fun e w' ⟨⟨q, he, hq⟩, hb⟩ => ⟨_, he, ⟨q, rfl, Lib.hid (hq.out.trans hVH.out)⟩, hS.trans (hb.mono (Below.size hS))⟩)) ?_)
  rintro v W3 ⟨q, rfl, hq⟩ hS3
  obtain rfl : V = q := hq.out.symm
  clear hq
  simp only [Act.put, List.setIfInBounds_toArray, List.set_cons_zero, List.set_cons_succ]
  refine tk_one (by kernel_rfl) (op_callx (i := 5) (fun v _ => ∃ q : Bool, v = .bool q ∧ Hid (q = V)) rfl (by kernel_rfl) (by exact ex_call (by exact rfl) Try.func16 (by kernel_rfl) (by kernel_rfl) (by simp only [List.map_toArray, List.map_cons, List.map_nil] <;> rfl)) ((rsame6_any d d' p p' _ (K0.rd.below hS3 (Nat.le_refl _) |>.more (Below.size hS3)) (K1.rd.below hS3 (Nat.le_refl _) |>.more (Below.size hS3))).mono (fun e w' ⟨⟨q, he, hq⟩, hb⟩ => ⟨_, he, ⟨q, rfl, Lib.hid (hq.out.trans hVH.out)⟩, hS3.trans (hb.mono (Below.size hS3))⟩)) ?_)
  rintro v W4 ⟨q, rfl, hq⟩ hS4
  obtain rfl : V = q := hq.out.symm
  clear hq
  simp only [Act.put, List.setIfInBounds_toArray, List.set_cons_zero, List.set_cons_succ]
  refine tk (i := 6) (.bool false) hS4 rfl (by kernel_rfl) (by kernel_rfl) (by kernel_rfl) (fun _ _ _ h => h) (by kernel_rfl) (by intro _ _; exact ex_ne_bool6 (by exact rfl) Try.underlying4 (by exact rfl) (by exact rfl) (by simp)) ?_
  simp only [Act.put, List.setIfInBounds_toArray, List.set_cons_zero, List.set_cons_succ]
  refine tk (i := 7) (.bool false) hS4 rfl (by kernel_rfl) (by kernel_rfl) (by kernel_rfl) (fun _ _ _ h => h) (by kernel_rfl) (by intro _ _; exact rfl) ?_
  simp only [Act.put, List.setIfInBounds_toArray, List.set_cons_zero, List.set_cons_succ]
  refine tk (i := 8) (.agg (d.cells p)) hS4 rfl (by kernel_rfl) (by kernel_rfl) (by kernel_rfl) (fun _ _ _ h => h) (by kernel_rfl) (by intro _ h; exact ex_load (by exact rfl) (by exact rfl) (((K0.has.below h K0.has.lt).load (P := Try.prog) 28 Try.underlying28 rfl v6_info))) ?_
  simp only [Act.put, List.setIfInBounds_toArray, List.set_cons_zero, List.set_cons_succ]
  refine tk (i := 9) (.agg (d.cells p)) hS4 rfl (by kernel_rfl) (by kernel_rfl) (by kernel_rfl) (fun _ _ _ h => h) (by kernel_rfl) (by intro _ h; exact ex_load (by exact rfl) (by exact rfl) (((K0.has.below h K0.has.lt).load (P := Try.prog) 28 Try.underlying28 rfl v6_info))) ?_
  simp only [Act.put, List.setIfInBounds_toArray, List.set_cons_zero, List.set_cons_succ]
  refine tk_one (by kernel_rfl) (op_callx (i := 10) (fun v _ => ∃ q : Bool, v = .bool q ∧ Hid (q = true)) rfl (by kernel_rfl) (by exact ex_call (by exact rfl) Try.func20 (by kernel_rfl) (by kernel_rfl) (by simp only [List.map_toArray, List.map_cons, List.map_nil] <;> rfl)) ((same6_any d d p p _ (K0.rd.below hS4 (Nat.le_refl _) |>.more (Below.size hS4)) (K0.rd.below hS4 (Nat.le_refl _) |>.more (Below.size hS4))).mono (fun e w' ⟨⟨q, he, hq⟩, hb⟩ => ⟨_, he, ⟨q, rfl, Lib.hid (hq.out.trans (same6_self _))⟩, hS4.trans (hb.mono (Below.size hS4))⟩)) ?_)
  rintro v W5 ⟨q, rfl, hq⟩ hS5
  obtain rfl : q = true := hq.out
  clear hq
  simp only [Act.put, List.setIfInBounds_toArray, List.set_cons_zero, List.set_cons_succ]
  refine tk (i := 11) (.bool false) hS5 rfl (by kernel_rfl) (by kernel_rfl) (by kernel_rfl) (fun _ _ _ h => h) (by kernel_rfl) (by intro _ _; exact ex_notb (b := true) (by exact rfl) (by exact rfl)) ?_
  simp only [Act.put, List.setIfInBounds_toArray, List.set_cons_zero, List.set_cons_succ]
  refine tk (i := 12) (.bool false) hS5 rfl (by kernel_rfl) (by kernel_rfl) (by kernel_rfl) (fun _ _ _ h => h) (by kernel_rfl) (by intro _ _; exact rfl) ?_
  simp only [Act.put, List.setIfInBounds_toArray, List.set_cons_zero, List.set_cons_succ]
  refine wpAnyH_done (by kernel_rfl) ?_ _
  clear hS hS3 hS4 hW1 hW2
  have hB := hB.trans (hS5.mono hB.size)
  have K0 := (K0.below hS5)
  clear hS5 K1
  have x0 := K0.has
  by_cases hck : d.check = 0
  case neg =>
    have hcs := Lib.hid (d.check_cases.resolve_left hck)
    have k1 := Lib.hid (write6_any d p W5 K0.rd)
    have hwr : d.write = [] := by unfold D6.write; rw [if_neg hck]
    rw [hwr] at k1
    clear hck hwr
    go_wp2_with (refine wpList_load_rowG (by kernel_rfl) 28 (.tmp 2) rfl w.heap.size rfl 28 (d.cells p) (0, 0) _ x0 Try.underlying28 rfl v6_info ?_)
    refine k1.out.mono ?_
    rintro e w6 ⟨v1, s1, rfl, hs1, o1, hb⟩
    have hB := hB.trans (hb.mono hB.size)
    obtain ⟨A1, c1, rfl, y1⟩ := o1.by_
    have hs0 : (s1 != 0) = true := by
      rw [hs1.out]
      rcases hcs.out with h | h <;> rw [h] <;> rfl
    clear k1 hs1 o1 y1 hb hcs K0 x0
    go_wp2_with fail
    refine (alive6_any _).mono ?_
    rintro e w9 ⟨rfl, hb⟩
    go_wp2
    go_ret
    exact ⟨rfl, hB.trans (hb.mono hB.size)⟩
  case pos =>
  have hwr : d.write = d.bytes := by unfold D6.write; rw [if_pos hck]
  have hbk := D6.back d hok hck
  obtain ⟨L, hL⟩ : ∃ L, d.bytes = L := ⟨_, rfl⟩
  have k1 := Lib.hid (write6_any d p W5 K0.rd)
  rw [hwr, hck, hL] at k1
  rw [hL] at hbk
  have hbkH := Lib.hid hbk
  clear hwr hbk hL hck
  go_wp2_with (refine wpList_load_rowG (by kernel_rfl) 28 (.tmp 2) rfl w.heap.size rfl 28 (d.cells p) (0, 0) _ x0 Try.underlying28 rfl v6_info ?_)
  refine k1.out.mono ?_
  rintro e w6 ⟨v1, s1, rfl, hs1, o1, hb⟩
  obtain rfl : s1 = 0 := hs1.out
  have hB := hB.trans (hb.mono hB.size)
  have K0 := K0.below hb
  obtain ⟨A1, c1, rfl, y1⟩ := o1.by_
  have k2 := Lib.hid (pparse6_any A1 c1 L w6 y1)
  rw [hbkH.out.2, hbkH.out.1] at k2
  clear hb hs1 k1 o1 y1 x0
  go_wp2_with fail
  refine k2.out.mono ?_
  rintro e w7 ⟨⟨p8, a, s, rfl, ha, hs, ho⟩, hb⟩
  obtain rfl : s = 0 := hs.out
  have hB := hB.trans (hb.mono hB.size)
  have K0 := K0.below hb
  clear hb ha hs k2
  obtain ⟨K8, hb⟩ := K6.new #[.int .u8 0, .int .u32 0, .int .u8 0, .int .u8 0, .int .u8 0, .int .u8 0, .int .u8 0, .int .u8 0, .int .u8 0, .int .u8 0, .int .u8 0, .int .u8 0, .int .u8 0, .int .u8 0, .int .u8 0, .int .u8 0, .int .u8 0, .int .u8 0, .int .u8 0, .int .u8 0, .int .u8 0, .int .u8 0, .int .u8 0, .int .u8 0, .int .u8 0, .int .u8 0, .int .u8 0, .int .u8 0, .int .u8 0, .int .u8 0, .int .u8 0, .int .u8 0, .int .u8 0, .int .u8 0, .int .u8 0, .slice none 0 0, .bool false, .int .u32 0, .int .i64 0, .bool false, .int .u8 0, .slice none 0 0] ho.rd
  have hZ : Has (w7.alloc (.cells #[.int .u8 0, .int .u32 0, .int .u8 0, .int .u8 0, .int .u8 0, .int .u8 0, .int .u8 0, .int .u8 0, .int .u8 0, .int .u8 0, .int .u8 0, .int .u8 0, .int .u8 0, .int .u8 0, .int .u8 0, .int .u8 0, .int .u8 0, .int .u8 0, .int .u8 0, .int .u8 0, .int .u8 0, .int .u8 0, .int .u8 0, .int .u8 0, .int .u8 0, .int .u8 0, .int .u8 0, .int .u8 0, .int .u8 0, .int .u8 0, .int .u8 0, .int .u8 0, .int .u8 0, .int .u8 0, .int .u8 0, .slice none 0 0, .bool false, .int .u32 0, .int .i64 0, .bool false, .int .u8 0, .slice none 0 0] 28)) w7.heap.size (.cells #[.int .u8 0, .int .u32 0, .int .u8 0, .int .u8 0, .int .u8 0, .int .u8 0, .int .u8 0, .int .u8 0, .int .u8 0, .int .u8 0, .int .u8 0, .int .u8 0, .int .u8 0, .int .u8 0, .int .u8 0, .int .u8 0, .int .u8 0, .int .u8 0, .int .u8 0, .int .u8 0, .int .u8 0, .int .u8 0, .int .u8 0, .int .u8 0, .int .u8 0, .int .u8 0, .int .u8 0, .int .u8 0, .int .u8 0, .int .u8 0, .int .u8 0, .int .u8 0, .int .u8 0, .int .u8 0, .int .u8 0, .slice none 0 0, .bool false, .int .u32 0, .int .i64 0, .bool false, .int .u8 0, .slice none 0 0] 28 (0, 0)) := Has.newAt rfl
  have hB := hB.trans (hb.mono hB.size)
  have K0 := K0.below hb
  obtain ⟨w8, hw8⟩ : ∃ W, (w7.alloc (.cells #[.int .u8 0, .int .u32 0, .int .u8 0, .int .u8 0, .int .u8 0, .int .u8 0, .int .u8 0, .int .u8 0, .int .u8 0, .int .u8 0, .int .u8 0, .int .u8 0, .int .u8 0, .int .u8 0, .int .u8 0, .int .u8 0, .int .u8 0, .int .u8 0, .int .u8 0, .int .u8 0, .int .u8 0, .int .u8 0, .int .u8 0, .int .u8 0, .int .u8 0, .int .u8 0, .int .u8 0, .int .u8 0, .int .u8 0, .int .u8 0, .int .u8 0, .int .u8 0, .int .u8 0, .int .u8 0, .int .u8 0, .slice none 0 0, .bool false, .int .u32 0, .int .i64 0, .bool false, .int .u8 0, .slice none 0 0] 28)).setRow w7.heap.size (D6.cells d p8) = W := ⟨_, rfl⟩
  rw [hw8] at K8 hB hb K0

  have x0 := K0.has
  have x8 := K8.has
  clear ho hb
  go_wp2_with (first | (refine wpList_store_row rfl 28 (.tmp 7) (.tmp 39) rfl w7.heap.size _ rfl rfl 28 _ hZ v6_info rfl (D6.cells_one _ _) ?_) | (refine wpList_load_rowG (by kernel_rfl) 28 (.tmp 2) rfl w.heap.size rfl 28 (d.cells p) (0, 0) _ x0 Try.underlying28 rfl v6_info ?_) | (refine wpList_load_rowG (by kernel_rfl) 28 (.tmp 7) rfl w7.heap.size rfl 28 (d.cells p8) (0, 0) _ x8 Try.underlying28 rfl v6_info ?_))
  refine (K0.same K8).mono ?_
  rintro e w9 ⟨⟨q, rfl, hq⟩, hb⟩
  obtain rfl : q = true := hq.out.trans (same6_self _)
  have hB := hB.trans (hb.mono hB.size)
  clear hq hb K0 K8 x0 x8
  go_wp2_with fail
  refine (alive6_any _).mono ?_
  rintro e w10 ⟨rfl, hb⟩
  go_wp2
  go_ret
  exact ⟨rfl, hB.trans (hb.mono hB.size)⟩
theorem back6_row (d : D6) (p : W6) (d' : D6) (p' : W6) (w : World) (hR : Rd6 w.heap.size w d p) (hR' : Rd6 w.heap.size w d' p') :
    Calls Try.prog 7 #[.agg (d.cells p), .agg (d'.cells p')] w fun e w' => e = .returned (.bool true) ∧ Below w.heap.size w w' := back6_walk d d' p p' w hR hR'
end Go.Proofs.Ytndmmkadceobjaa
