/-
  The walk of SegmentUDPs.
-/
import Derived.Test.YtaobnbjkhgcmlaaReg7
import Derived.Test.YtaobnbjkhgcmlaaPu7
import Derived.Test.YtaobnbjkhgcmlaaRpu4
import Derived.Test.YtaobnbjkhgcmlaaRpu6
import Derived.Test.YtaobnbjkhgcmlaaSg1
namespace Go.Proofs.Ytaobnbjkhgcmlaa
open Go.RowKit Go.Shelf

set_option maxRecDepth 100000 in
set_option maxHeartbeats 4000000 in
theorem udps_walk (x : DE) (A : Option Addr) (c : Nat) (l : List Int) (w : World) (hx : x.ok) (y : By w.heap.size w A l.length c l) :
    Calls Try.prog 6 #[.agg x.cells, .slice A l.length c] w fun e w' => e = .returned (.bool true) ∧ Below w.heap.size w w' := by
  have hK : KL x A c l w (w.alloc (.cells x.cells 38)) := ⟨Has.newAt rfl, (y.alloc (Nat.le_refl _) _).more (by simp), (Below.refl _ _).alloc (Nat.le_refl _) _⟩
  go_enter Try.func6, Try.ntmps6
  obtain ⟨D4, hD4⟩ : ∃ D, uGot false (pse4 x.a x.b l.length 17) l = D := ⟨_, rfl⟩
  obtain ⟨s4, hs4⟩ : ∃ s, uErr false (pse4 x.a x.b l.length 17) l = s := ⟨_, rfl⟩
  obtain ⟨q4, hq4⟩ : ∃ q, uNone false (pse4 x.a x.b l.length 17) l = q := ⟨_, rfl⟩
  have hD4 := Lib.hid hD4
  have hs4 := Lib.hid hs4
  have hq4 := Lib.hid hq4
  go_wp2_with (first
    | (refine wl (.agg (u8s x.a).toArray) (by kernel_rfl) (by exact ex_loadAt (by exact rfl) (by exact rfl) (hK.hE.loadAt (P := Try.prog) 0 (u8s x.a) (DE.at_a hx) 34 Try.underlying34 rfl (by rw [u8s_length, hx.la]; kernel_rfl))) ?_)
    | (refine wl (.agg (u8s x.b).toArray) (by kernel_rfl) (by exact ex_loadAt (by exact rfl) (by exact rfl) (hK.hE.loadAt (P := Try.prog) 4 (u8s x.b) (DE.at_b hx) 34 Try.underlying34 rfl (by rw [u8s_length, hx.lb]; kernel_rfl))) ?_))
  refine (parseUDP4_any x.a x.b hx.la hx.lb hx.ra hx.rb A c l _ hK.y).mono ?_
  rw [hD4.out, hs4.out, hq4.out]
  rintro e w1 ⟨A4, c4, rfl, hok, ho, hb⟩
  have hN : Has (w1.alloc (.cells #[.int .u16 0, .int .u16 0, .slice none 0 0] 28)) w1.heap.size (.cells #[.int .u16 0, .int .u16 0, .slice none 0 0] 28 (0, 0)) := Has.newAt rfl
  have hnew := KD.new (cs := #[.int .u16 0, .int .u16 0, .slice none 0 0]) (ho.row)
  have hK := (hK.below hb).below hnew.2
  have k4 := hnew.1
  clear hb hnew ho hok
  go_wp2_with (refine wpList_store_row rfl 28 (.tmp 5) (.tmp 23) rfl w1.heap.size _ rfl rfl 28 _ hN udp_info rfl (by simp [DU.cells, Value.oneCell']) ?_)
  clear hN
  generalize (w1.alloc (.cells #[.int .u16 0, .int .u16 0, .slice none 0 0] 28)).setRow w1.heap.size (D4.cells A4 c4) = W at hK k4 ⊢
  generalize w1.heap.size = g4 at k4 ⊢
  refine wp_region_held_drew (S := SG W) (by kernel_rfl) ⟨below_drew _ _⟩ (fun hS => ?_)
  generalize W.drew = W0 at hS ⊢
  -- REGION 2
  refine tk (i := 0) (.pointer (some ⟨w.heap.size, 0, none⟩)) hS rfl (by kernel_rfl) (by kernel_rfl) (by kernel_rfl) (fun _ _ _ h => h) (by kernel_rfl) (by intro _ _; exact ex_field 0 3 (by exact rfl) Try.underlying38 (by exact rfl) rfl (by kernel_rfl) (by exact rfl)) ?_
  simp only [Act.put, List.setIfInBounds_toArray, List.set_cons_zero, List.set_cons_succ]
  refine tk (i := 1) (.slice (some ⟨w.heap.size, 0, none⟩) 4 4) hS rfl (by kernel_rfl) (by kernel_rfl) (by kernel_rfl) (fun _ _ _ h => h) (by kernel_rfl) (by intro _ _; exact ex_arr (by exact rfl) Try.underlying34 (by kernel_rfl) (by exact rfl)) ?_
  simp only [Act.put, List.setIfInBounds_toArray, List.set_cons_zero, List.set_cons_succ]
  refine tk (i := 2) (.pointer (some ⟨w.heap.size, 4, none⟩)) hS rfl (by kernel_rfl) (by kernel_rfl) (by kernel_rfl) (fun _ _ _ h => h) (by kernel_rfl) (by intro _ _; exact ex_field 4 3 (by exact rfl) Try.underlying38 (by exact rfl) rfl (by kernel_rfl) (by exact rfl)) ?_
  simp only [Act.put, List.setIfInBounds_toArray, List.set_cons_zero, List.set_cons_succ]
  refine tk (i := 3) (.slice (some ⟨w.heap.size, 4, none⟩) 4 4) hS rfl (by kernel_rfl) (by kernel_rfl) (by kernel_rfl) (fun _ _ _ h => h) (by kernel_rfl) (by intro _ _; exact ex_arr (by exact rfl) Try.underlying34 (by kernel_rfl) (by exact rfl)) ?_
  simp only [Act.put, List.setIfInBounds_toArray, List.set_cons_zero, List.set_cons_succ]
  refine tk (i := 4) (.slice A l.length c) hS rfl (by kernel_rfl) (by kernel_rfl) (by kernel_rfl) (fun _ _ _ h => h) (by kernel_rfl) (by intro _ _; exact rfl) ?_
  simp only [Act.put, List.setIfInBounds_toArray, List.set_cons_zero, List.set_cons_succ]
  refine tk_two (by kernel_rfl) (op_callx (i := 5) (fun v w' => ∃ A8 c8, v = .tuple #[.agg (D4.cells A8 c8), .bool q4, .int .i64 s4] ∧ OwnB w' W0.heap.size (.slice A8 D4.bl.length c8) D4.bl ∧ Below W0.heap.size W0 w') rfl (by kernel_rfl) (by exact ex_call (by exact rfl) Try.func27 (by kernel_rfl) (by kernel_rfl) (by simp only [List.map_toArray, List.map_cons, List.map_nil] <;> rfl)) (by have h := rpudp4_any x.a x.b hx.la hx.lb _ _ _ _ A c l _ (By.mid (hK.hE.below hS.b hK.hE.lt) (Nat.lt_of_lt_of_le hK.hE.lt hS.big) 0 4 x.a hx.ra hx.la (by decide) (DE.at_a hx)) (By.mid (hK.hE.below hS.b hK.hE.lt) (Nat.lt_of_lt_of_le hK.hE.lt hS.big) 4 4 x.b hx.rb hx.lb (by decide) (DE.at_b hx)) ((hK.y.below hS.b (Nat.le_refl _)).more hS.big); rw [hD4.out, hs4.out, hq4.out] at h; exact h.mono fun e w' g => by obtain ⟨A8, c8, rfl, _, ho, hb⟩ := g; exact ⟨_, rfl, ⟨A8, c8, rfl, ho, hb⟩, hS.keep (hb.mono hS.big)⟩) ?_) (op_alloc (i := 10) (#[.int .u16 0, .int .u16 0, .slice none 0 0]) rfl (by kernel_rfl) rfl (by kernel_rfl) (fun _ hb => hS.keep (hb.mono hS.big)) ?_)
  case' refine_1 =>
    rintro v1 W1 ⟨B4, d4, rfl, ho, hbc⟩ hS1
    try replace hz := hz.below hbc hz.lt
    simp only [Act.put, List.setIfInBounds_toArray, List.set_cons_zero, List.set_cons_succ]
    refine tk (i := 6) (.tuple #[.agg (D4.cells B4 d4), .bool q4, .int .i64 s4]) hS1 rfl (by kernel_rfl) (by kernel_rfl) (by kernel_rfl) (fun _ _ _ h => h) (by kernel_rfl) (by intro _ _; exact rfl) ?_
    simp only [Act.put, List.setIfInBounds_toArray, List.set_cons_zero, List.set_cons_succ]
    refine tk (i := 7) (.agg (D4.cells B4 d4)) hS1 rfl (by kernel_rfl) (by kernel_rfl) (by kernel_rfl) (fun _ _ _ h => h) (by kernel_rfl) (by intro _ _; exact rfl) ?_
    simp only [Act.put, List.setIfInBounds_toArray, List.set_cons_zero, List.set_cons_succ]
    refine tk (i := 8) (.bool q4) hS1 rfl (by kernel_rfl) (by kernel_rfl) (by kernel_rfl) (fun _ _ _ h => h) (by kernel_rfl) (by intro _ _; exact rfl) ?_
    simp only [Act.put, List.setIfInBounds_toArray, List.set_cons_zero, List.set_cons_succ]
    refine tk (i := 9) (.int .i64 s4) hS1 rfl (by kernel_rfl) (by kernel_rfl) (by kernel_rfl) (fun _ _ _ h => h) (by kernel_rfl) (by intro _ _; exact rfl) ?_
    simp only [Act.put, List.setIfInBounds_toArray, List.set_cons_zero, List.set_cons_succ]
    refine tk_one (by kernel_rfl) (op_alloc (i := 10) (#[.int .u16 0, .int .u16 0, .slice none 0 0]) rfl (by kernel_rfl) rfl (by kernel_rfl) (fun _ hb => hS1.keep (hb.mono hS1.big)) ?_)
    intro e4 W2 hz hge hsz hba hS2
    simp only [Act.put, List.setIfInBounds_toArray, List.set_cons_zero, List.set_cons_succ]
    have hrow : By (W2.setRow e4 (D4.cells B4 d4)).heap.size (W2.setRow e4 (D4.cells B4 d4)) B4 D4.bl.length d4 D4.bl := by first | exact (ho.row.below (hba.trans (below_setRow'.mono hge)) (Nat.le_refl _)).more (hba.trans (below_setRow'.mono hge)).size | exact (ho.setRow (g := e4) (cs := (D4.cells B4 d4)) (by omega)).row
    have hgb : W.heap.size ≤ e4 := by first | exact Nat.le_trans hS1.big hge | exact Nat.le_trans hS.big hge
    refine tk_store (i := 11) (by kernel_rfl) rfl (by kernel_rfl) rfl rfl rfl hz udp_info rfl (by simp [DU.cells, Value.oneCell']) (hS2.keep (below_setRow'.mono hgb)) ?_
    have hS9 := hS2.keep ((below_setRow' (w := W2) (g := e4) (cs := (D4.cells B4 d4))).mono hgb)
    have z4 : KD _ e4 D4 B4 d4 := ⟨hz.setRow_same, hrow⟩
    generalize W2.setRow e4 (D4.cells B4 d4) = W9 at hS9 z4 ⊢
    clear hrow hz hsz hge hgb hba hbc ho hS1 hS2
    simp only [Act.put, List.setIfInBounds_toArray, List.set_cons_zero, List.set_cons_succ]
    refine tk (i := 12) (.bool q4) hS9 rfl (by kernel_rfl) (by kernel_rfl) (by kernel_rfl) (fun _ _ _ h => h) (by kernel_rfl) (by intro _ _; exact rfl) ?_
    simp only [Act.put, List.setIfInBounds_toArray, List.set_cons_zero, List.set_cons_succ]
    refine tk (i := 13) (.int .i64 s4) hS9 rfl (by kernel_rfl) (by kernel_rfl) (by kernel_rfl) (fun _ _ _ h => h) (by kernel_rfl) (by intro _ _; exact rfl) ?_
    simp only [Act.put, List.setIfInBounds_toArray, List.set_cons_zero, List.set_cons_succ]
    refine wpAnyH_done (by kernel_rfl) ?_ _
    have hK := hK.below hS9.b
    have k4 := k4.below hS9.b
    clear hS hS9
  case' refine_2 =>
    intro e4 W2 hz hge hsz hba hS2
    simp only [Act.put, List.setIfInBounds_toArray, List.set_cons_zero, List.set_cons_succ]
    refine tk_one (by kernel_rfl) (op_callx (i := 5) (fun v w' => ∃ A8 c8, v = .tuple #[.agg (D4.cells A8 c8), .bool q4, .int .i64 s4] ∧ OwnB w' W2.heap.size (.slice A8 D4.bl.length c8) D4.bl ∧ Below W2.heap.size W2 w') rfl (by kernel_rfl) (by exact ex_call (by exact rfl) Try.func27 (by kernel_rfl) (by kernel_rfl) (by simp only [List.map_toArray, List.map_cons, List.map_nil] <;> rfl)) (by have h := rpudp4_any x.a x.b hx.la hx.lb _ _ _ _ A c l _ (By.mid (hK.hE.below hS2.b hK.hE.lt) (Nat.lt_of_lt_of_le hK.hE.lt hS2.big) 0 4 x.a hx.ra hx.la (by decide) (DE.at_a hx)) (By.mid (hK.hE.below hS2.b hK.hE.lt) (Nat.lt_of_lt_of_le hK.hE.lt hS2.big) 4 4 x.b hx.rb hx.lb (by decide) (DE.at_b hx)) ((hK.y.below hS2.b (Nat.le_refl _)).more hS2.big); rw [hD4.out, hs4.out, hq4.out] at h; exact h.mono fun e w' g => by obtain ⟨A8, c8, rfl, _, ho, hb⟩ := g; exact ⟨_, rfl, ⟨A8, c8, rfl, ho, hb⟩, hS2.keep (hb.mono hS2.big)⟩) ?_)
    rintro v1 W1 ⟨B4, d4, rfl, ho, hbc⟩ hS1
    try replace hz := hz.below hbc hz.lt
    simp only [Act.put, List.setIfInBounds_toArray, List.set_cons_zero, List.set_cons_succ]
    refine tk (i := 6) (.tuple #[.agg (D4.cells B4 d4), .bool q4, .int .i64 s4]) hS1 rfl (by kernel_rfl) (by kernel_rfl) (by kernel_rfl) (fun _ _ _ h => h) (by kernel_rfl) (by intro _ _; exact rfl) ?_
    simp only [Act.put, List.setIfInBounds_toArray, List.set_cons_zero, List.set_cons_succ]
    refine tk (i := 7) (.agg (D4.cells B4 d4)) hS1 rfl (by kernel_rfl) (by kernel_rfl) (by kernel_rfl) (fun _ _ _ h => h) (by kernel_rfl) (by intro _ _; exact rfl) ?_
    simp only [Act.put, List.setIfInBounds_toArray, List.set_cons_zero, List.set_cons_succ]
    refine tk (i := 8) (.bool q4) hS1 rfl (by kernel_rfl) (by kernel_rfl) (by kernel_rfl) (fun _ _ _ h => h) (by kernel_rfl) (by intro _ _; exact rfl) ?_
    simp only [Act.put, List.setIfInBounds_toArray, List.set_cons_zero, List.set_cons_succ]
    refine tk (i := 9) (.int .i64 s4) hS1 rfl (by kernel_rfl) (by kernel_rfl) (by kernel_rfl) (fun _ _ _ h => h) (by kernel_rfl) (by intro _ _; exact rfl) ?_
    simp only [Act.put, List.setIfInBounds_toArray, List.set_cons_zero, List.set_cons_succ]
    have hrow : By (W1.setRow e4 (D4.cells B4 d4)).heap.size (W1.setRow e4 (D4.cells B4 d4)) B4 D4.bl.length d4 D4.bl := by first | exact (ho.row.below (hba.trans (below_setRow'.mono hge)) (Nat.le_refl _)).more (hba.trans (below_setRow'.mono hge)).size | exact (ho.setRow (g := e4) (cs := (D4.cells B4 d4)) (by omega)).row
    have hgb : W.heap.size ≤ e4 := by first | exact Nat.le_trans hS1.big hge | exact Nat.le_trans hS.big hge
    refine tk_store (i := 11) (by kernel_rfl) rfl (by kernel_rfl) rfl rfl rfl hz udp_info rfl (by simp [DU.cells, Value.oneCell']) (hS1.keep (below_setRow'.mono hgb)) ?_
    have hS9 := hS1.keep ((below_setRow' (w := W1) (g := e4) (cs := (D4.cells B4 d4))).mono hgb)
    have z4 : KD _ e4 D4 B4 d4 := ⟨hz.setRow_same, hrow⟩
    generalize W1.setRow e4 (D4.cells B4 d4) = W9 at hS9 z4 ⊢
    clear hrow hz hsz hge hgb hba hbc ho hS1 hS2
    simp only [Act.put, List.setIfInBounds_toArray, List.set_cons_zero, List.set_cons_succ]
    refine tk (i := 12) (.bool q4) hS9 rfl (by kernel_rfl) (by kernel_rfl) (by kernel_rfl) (fun _ _ _ h => h) (by kernel_rfl) (by intro _ _; exact rfl) ?_
    simp only [Act.put, List.setIfInBounds_toArray, List.set_cons_zero, List.set_cons_succ]
    refine tk (i := 13) (.int .i64 s4) hS9 rfl (by kernel_rfl) (by kernel_rfl) (by kernel_rfl) (fun _ _ _ h => h) (by kernel_rfl) (by intro _ _; exact rfl) ?_
    simp only [Act.put, List.setIfInBounds_toArray, List.set_cons_zero, List.set_cons_succ]
    refine wpAnyH_done (by kernel_rfl) ?_ _
    have hK := hK.below hS9.b
    have k4 := k4.below hS9.b
    clear hS hS9
  -- END 2
  all_goals
    obtain ⟨D6, hD6⟩ : ∃ D, uGot true (pse6 x.c x.d l.length 17) l = D := ⟨_, rfl⟩
    obtain ⟨s6, hs6⟩ : ∃ s, uErr true (pse6 x.c x.d l.length 17) l = s := ⟨_, rfl⟩
    obtain ⟨q6, hq6⟩ : ∃ q, uNone true (pse6 x.c x.d l.length 17) l = q := ⟨_, rfl⟩
    have hD6 := Lib.hid hD6
    have hs6 := Lib.hid hs6
    have hq6 := Lib.hid hq6
    go_wp2_with (first
      | (refine wl (.agg (u8s x.c).toArray) (by kernel_rfl) (by exact ex_loadAt (by exact rfl) (by exact rfl) (hK.hE.loadAt (P := Try.prog) 8 (u8s x.c) (DE.at_c hx) 36 Try.underlying36 rfl (by rw [u8s_length, hx.lc]; kernel_rfl))) ?_)
      | (refine wl (.agg (u8s x.d).toArray) (by kernel_rfl) (by exact ex_loadAt (by exact rfl) (by exact rfl) (hK.hE.loadAt (P := Try.prog) 24 (u8s x.d) (DE.at_d hx) 36 Try.underlying36 rfl (by rw [u8s_length, hx.ld]; kernel_rfl))) ?_))
    refine (parseUDP6_any x.c x.d hx.lc hx.ld hx.rc hx.rd A c l _ hK.y).mono ?_
    rw [hD6.out, hs6.out]
    rintro e w1 ⟨A6, c6, rfl, hok, ho, hb⟩
    have hN : Has (w1.alloc (.cells #[.int .u16 0, .int .u16 0, .slice none 0 0] 28)) w1.heap.size (.cells #[.int .u16 0, .int .u16 0, .slice none 0 0] 28 (0, 0)) := Has.newAt rfl
    have hnew := KD.new (cs := #[.int .u16 0, .int .u16 0, .slice none 0 0]) (ho.row)
    have hK := (hK.below hb).below hnew.2
    have k4 := (k4.below hb).below hnew.2
    have z4 := (z4.below hb).below hnew.2
    have k6 := hnew.1
    clear hb hnew ho hok
    go_wp2_with (refine wpList_store_row rfl 28 (.tmp 11) (.tmp 43) rfl w1.heap.size _ rfl rfl 28 _ hN udp_info rfl (by simp [DU.cells, Value.oneCell']) ?_)
    clear hN
    generalize (w1.alloc (.cells #[.int .u16 0, .int .u16 0, .slice none 0 0] 28)).setRow w1.heap.size (D6.cells A6 c6) = W at hK k4 z4 k6 ⊢
    generalize w1.heap.size = g6 at k6 ⊢
    refine wp_region_held_drew (S := SG W) (by kernel_rfl) ⟨below_drew _ _⟩ (fun hS => ?_)
    generalize W.drew = W0 at hS ⊢
    -- REGION 4
    refine tk (i := 0) (.pointer (some ⟨w.heap.size, 8, none⟩)) hS rfl (by kernel_rfl) (by kernel_rfl) (by kernel_rfl) (fun _ _ _ h => h) (by kernel_rfl) (by intro _ _; exact ex_field 8 15 (by exact rfl) Try.underlying38 (by exact rfl) rfl (by kernel_rfl) (by exact rfl)) ?_
    simp only [Act.put, List.setIfInBounds_toArray, List.set_cons_zero, List.set_cons_succ]
    refine tk (i := 1) (.slice (some ⟨w.heap.size, 8, none⟩) 16 16) hS rfl (by kernel_rfl) (by kernel_rfl) (by kernel_rfl) (fun _ _ _ h => h) (by kernel_rfl) (by intro _ _; exact ex_arr (by exact rfl) Try.underlying36 (by kernel_rfl) (by exact rfl)) ?_
    simp only [Act.put, List.setIfInBounds_toArray, List.set_cons_zero, List.set_cons_succ]
    refine tk (i := 2) (.pointer (some ⟨w.heap.size, 24, none⟩)) hS rfl (by kernel_rfl) (by kernel_rfl) (by kernel_rfl) (fun _ _ _ h => h) (by kernel_rfl) (by intro _ _; exact ex_field 24 15 (by exact rfl) Try.underlying38 (by exact rfl) rfl (by kernel_rfl) (by exact rfl)) ?_
    simp only [Act.put, List.setIfInBounds_toArray, List.set_cons_zero, List.set_cons_succ]
    refine tk (i := 3) (.slice (some ⟨w.heap.size, 24, none⟩) 16 16) hS rfl (by kernel_rfl) (by kernel_rfl) (by kernel_rfl) (fun _ _ _ h => h) (by kernel_rfl) (by intro _ _; exact ex_arr (by exact rfl) Try.underlying36 (by kernel_rfl) (by exact rfl)) ?_
    simp only [Act.put, List.setIfInBounds_toArray, List.set_cons_zero, List.set_cons_succ]
    refine tk (i := 4) (.slice A l.length c) hS rfl (by kernel_rfl) (by kernel_rfl) (by kernel_rfl) (fun _ _ _ h => h) (by kernel_rfl) (by intro _ _; exact rfl) ?_
    simp only [Act.put, List.setIfInBounds_toArray, List.set_cons_zero, List.set_cons_succ]
    refine tk_two (by kernel_rfl) (op_callx (i := 5) (fun v w' => ∃ A8 c8, v = .tuple #[.agg (D6.cells A8 c8), .bool q6, .int .i64 s6] ∧ OwnB w' W0.heap.size (.slice A8 D6.bl.length c8) D6.bl ∧ Below W0.heap.size W0 w') rfl (by kernel_rfl) (by exact ex_call (by exact rfl) Try.func27 (by kernel_rfl) (by kernel_rfl) (by simp only [List.map_toArray, List.map_cons, List.map_nil] <;> rfl)) (by have h := rpudp6_any x.c x.d hx.lc hx.ld _ _ _ _ A c l _ (By.mid (hK.hE.below hS.b hK.hE.lt) (Nat.lt_of_lt_of_le hK.hE.lt hS.big) 8 16 x.c hx.rc hx.lc (by decide) (DE.at_c hx)) (By.mid (hK.hE.below hS.b hK.hE.lt) (Nat.lt_of_lt_of_le hK.hE.lt hS.big) 24 16 x.d hx.rd hx.ld (by decide) (DE.at_d hx)) ((hK.y.below hS.b (Nat.le_refl _)).more hS.big); rw [hD6.out, hs6.out, hq6.out] at h; exact h.mono fun e w' g => by obtain ⟨A8, c8, rfl, _, ho, hb⟩ := g; exact ⟨_, rfl, ⟨A8, c8, rfl, ho, hb⟩, hS.keep (hb.mono hS.big)⟩) ?_) (op_alloc (i := 10) (#[.int .u16 0, .int .u16 0, .slice none 0 0]) rfl (by kernel_rfl) rfl (by kernel_rfl) (fun _ hb => hS.keep (hb.mono hS.big)) ?_)
    case' refine_1 =>
      rintro v1 W1 ⟨B6, d6, rfl, ho, hbc⟩ hS1
      try replace hz := hz.below hbc hz.lt
      simp only [Act.put, List.setIfInBounds_toArray, List.set_cons_zero, List.set_cons_succ]
      refine tk (i := 6) (.tuple #[.agg (D6.cells B6 d6), .bool q6, .int .i64 s6]) hS1 rfl (by kernel_rfl) (by kernel_rfl) (by kernel_rfl) (fun _ _ _ h => h) (by kernel_rfl) (by intro _ _; exact rfl) ?_
      simp only [Act.put, List.setIfInBounds_toArray, List.set_cons_zero, List.set_cons_succ]
      refine tk (i := 7) (.agg (D6.cells B6 d6)) hS1 rfl (by kernel_rfl) (by kernel_rfl) (by kernel_rfl) (fun _ _ _ h => h) (by kernel_rfl) (by intro _ _; exact rfl) ?_
      simp only [Act.put, List.setIfInBounds_toArray, List.set_cons_zero, List.set_cons_succ]
      refine tk (i := 8) (.bool q6) hS1 rfl (by kernel_rfl) (by kernel_rfl) (by kernel_rfl) (fun _ _ _ h => h) (by kernel_rfl) (by intro _ _; exact rfl) ?_
      simp only [Act.put, List.setIfInBounds_toArray, List.set_cons_zero, List.set_cons_succ]
      refine tk (i := 9) (.int .i64 s6) hS1 rfl (by kernel_rfl) (by kernel_rfl) (by kernel_rfl) (fun _ _ _ h => h) (by kernel_rfl) (by intro _ _; exact rfl) ?_
      simp only [Act.put, List.setIfInBounds_toArray, List.set_cons_zero, List.set_cons_succ]
      refine tk_one (by kernel_rfl) (op_alloc (i := 10) (#[.int .u16 0, .int .u16 0, .slice none 0 0]) rfl (by kernel_rfl) rfl (by kernel_rfl) (fun _ hb => hS1.keep (hb.mono hS1.big)) ?_)
      intro e6 W2 hz hge hsz hba hS2
      simp only [Act.put, List.setIfInBounds_toArray, List.set_cons_zero, List.set_cons_succ]
      have hrow : By (W2.setRow e6 (D6.cells B6 d6)).heap.size (W2.setRow e6 (D6.cells B6 d6)) B6 D6.bl.length d6 D6.bl := by first | exact (ho.row.below (hba.trans (below_setRow'.mono hge)) (Nat.le_refl _)).more (hba.trans (below_setRow'.mono hge)).size | exact (ho.setRow (g := e6) (cs := (D6.cells B6 d6)) (by omega)).row
      have hgb : W.heap.size ≤ e6 := by first | exact Nat.le_trans hS1.big hge | exact Nat.le_trans hS.big hge
      refine tk_store (i := 11) (by kernel_rfl) rfl (by kernel_rfl) rfl rfl rfl hz udp_info rfl (by simp [DU.cells, Value.oneCell']) (hS2.keep (below_setRow'.mono hgb)) ?_
      have hS9 := hS2.keep ((below_setRow' (w := W2) (g := e6) (cs := (D6.cells B6 d6))).mono hgb)
      have z6 : KD _ e6 D6 B6 d6 := ⟨hz.setRow_same, hrow⟩
      generalize W2.setRow e6 (D6.cells B6 d6) = W9 at hS9 z6 ⊢
      clear hrow hz hsz hge hgb hba hbc ho hS1 hS2
      simp only [Act.put, List.setIfInBounds_toArray, List.set_cons_zero, List.set_cons_succ]
      refine tk (i := 12) (.bool q6) hS9 rfl (by kernel_rfl) (by kernel_rfl) (by kernel_rfl) (fun _ _ _ h => h) (by kernel_rfl) (by intro _ _; exact rfl) ?_
      simp only [Act.put, List.setIfInBounds_toArray, List.set_cons_zero, List.set_cons_succ]
      refine tk (i := 13) (.int .i64 s6) hS9 rfl (by kernel_rfl) (by kernel_rfl) (by kernel_rfl) (fun _ _ _ h => h) (by kernel_rfl) (by intro _ _; exact rfl) ?_
      simp only [Act.put, List.setIfInBounds_toArray, List.set_cons_zero, List.set_cons_succ]
      refine wpAnyH_done (by kernel_rfl) ?_ _
      have hK := hK.below hS9.b
      have k4 := k4.below hS9.b
      have z4 := z4.below hS9.b
      have k6 := k6.below hS9.b
      clear hS hS9
    case' refine_2 =>
      intro e6 W2 hz hge hsz hba hS2
      simp only [Act.put, List.setIfInBounds_toArray, List.set_cons_zero, List.set_cons_succ]
      refine tk_one (by kernel_rfl) (op_callx (i := 5) (fun v w' => ∃ A8 c8, v = .tuple #[.agg (D6.cells A8 c8), .bool q6, .int .i64 s6] ∧ OwnB w' W2.heap.size (.slice A8 D6.bl.length c8) D6.bl ∧ Below W2.heap.size W2 w') rfl (by kernel_rfl) (by exact ex_call (by exact rfl) Try.func27 (by kernel_rfl) (by kernel_rfl) (by simp only [List.map_toArray, List.map_cons, List.map_nil] <;> rfl)) (by have h := rpudp6_any x.c x.d hx.lc hx.ld _ _ _ _ A c l _ (By.mid (hK.hE.below hS2.b hK.hE.lt) (Nat.lt_of_lt_of_le hK.hE.lt hS2.big) 8 16 x.c hx.rc hx.lc (by decide) (DE.at_c hx)) (By.mid (hK.hE.below hS2.b hK.hE.lt) (Nat.lt_of_lt_of_le hK.hE.lt hS2.big) 24 16 x.d hx.rd hx.ld (by decide) (DE.at_d hx)) ((hK.y.below hS2.b (Nat.le_refl _)).more hS2.big); rw [hD6.out, hs6.out, hq6.out] at h; exact h.mono fun e w' g => by obtain ⟨A8, c8, rfl, _, ho, hb⟩ := g; exact ⟨_, rfl, ⟨A8, c8, rfl, ho, hb⟩, hS2.keep (hb.mono hS2.big)⟩) ?_)
      rintro v1 W1 ⟨B6, d6, rfl, ho, hbc⟩ hS1
      try replace hz := hz.below hbc hz.lt
      simp only [Act.put, List.setIfInBounds_toArray, List.set_cons_zero, List.set_cons_succ]
      refine tk (i := 6) (.tuple #[.agg (D6.cells B6 d6), .bool q6, .int .i64 s6]) hS1 rfl (by kernel_rfl) (by kernel_rfl) (by kernel_rfl) (fun _ _ _ h => h) (by kernel_rfl) (by intro _ _; exact rfl) ?_
      simp only [Act.put, List.setIfInBounds_toArray, List.set_cons_zero, List.set_cons_succ]
      refine tk (i := 7) (.agg (D6.cells B6 d6)) hS1 rfl (by kernel_rfl) (by kernel_rfl) (by kernel_rfl) (fun _ _ _ h => h) (by kernel_rfl) (by intro _ _; exact rfl) ?_
      simp only [Act.put, List.setIfInBounds_toArray, List.set_cons_zero, List.set_cons_succ]
      refine tk (i := 8) (.bool q6) hS1 rfl (by kernel_rfl) (by kernel_rfl) (by kernel_rfl) (fun _ _ _ h => h) (by kernel_rfl) (by intro _ _; exact rfl) ?_
      simp only [Act.put, List.setIfInBounds_toArray, List.set_cons_zero, List.set_cons_succ]
      refine tk (i := 9) (.int .i64 s6) hS1 rfl (by kernel_rfl) (by kernel_rfl) (by kernel_rfl) (fun _ _ _ h => h) (by kernel_rfl) (by intro _ _; exact rfl) ?_
      simp only [Act.put, List.setIfInBounds_toArray, List.set_cons_zero, List.set_cons_succ]
      have hrow : By (W1.setRow e6 (D6.cells B6 d6)).heap.size (W1.setRow e6 (D6.cells B6 d6)) B6 D6.bl.length d6 D6.bl := by first | exact (ho.row.below (hba.trans (below_setRow'.mono hge)) (Nat.le_refl _)).more (hba.trans (below_setRow'.mono hge)).size | exact (ho.setRow (g := e6) (cs := (D6.cells B6 d6)) (by omega)).row
      have hgb : W.heap.size ≤ e6 := by first | exact Nat.le_trans hS1.big hge | exact Nat.le_trans hS.big hge
      refine tk_store (i := 11) (by kernel_rfl) rfl (by kernel_rfl) rfl rfl rfl hz udp_info rfl (by simp [DU.cells, Value.oneCell']) (hS1.keep (below_setRow'.mono hgb)) ?_
      have hS9 := hS1.keep ((below_setRow' (w := W1) (g := e6) (cs := (D6.cells B6 d6))).mono hgb)
      have z6 : KD _ e6 D6 B6 d6 := ⟨hz.setRow_same, hrow⟩
      generalize W1.setRow e6 (D6.cells B6 d6) = W9 at hS9 z6 ⊢
      clear hrow hz hsz hge hgb hba hbc ho hS1 hS2
      simp only [Act.put, List.setIfInBounds_toArray, List.set_cons_zero, List.set_cons_succ]
      refine tk (i := 12) (.bool q6) hS9 rfl (by kernel_rfl) (by kernel_rfl) (by kernel_rfl) (fun _ _ _ h => h) (by kernel_rfl) (by intro _ _; exact rfl) ?_
      simp only [Act.put, List.setIfInBounds_toArray, List.set_cons_zero, List.set_cons_succ]
      refine tk (i := 13) (.int .i64 s6) hS9 rfl (by kernel_rfl) (by kernel_rfl) (by kernel_rfl) (fun _ _ _ h => h) (by kernel_rfl) (by intro _ _; exact rfl) ?_
      simp only [Act.put, List.setIfInBounds_toArray, List.set_cons_zero, List.set_cons_succ]
      refine wpAnyH_done (by kernel_rfl) ?_ _
      have hK := hK.below hS9.b
      have k4 := k4.below hS9.b
      have z4 := z4.below hS9.b
      have k6 := k6.below hS9.b
      clear hS hS9
    -- END 4
    all_goals

      go_wp2_with (first | (refine wpList_load_row rfl 28 (.tmp 5) rfl g4 rfl 28 (D4.cells A4 c4) (0, 0) _ k4.has Try.underlying28 rfl udp_info ?_) | (refine wpList_load_row rfl 28 (.tmp 8) rfl e4 rfl 28 (D4.cells B4 d4) (0, 0) _ z4.has Try.underlying28 rfl udp_info ?_))
      refine (rsameU_any _ _ D4 D4 A4 B4 c4 d4 _ k4.row z4.row (Nat.le_refl _) (Nat.le_refl _)).mono ?_
      rintro e w5 ⟨b5, rfl, hb5, hbb⟩
      obtain rfl : b5 = true := by rw [hb5.out, sameU_self]
      have hK := hK.below hbb
      have k6 := k6.below hbb
      have z6 := z6.below hbb
      clear hb5 hbb
      go_wp2_with (first | (refine wpList_load_rowG (by kernel_rfl) 28 (.tmp 11) rfl g6 rfl 28 (D6.cells A6 c6) (0, 0) _ k6.has Try.underlying28 rfl udp_info ?_) | (refine wpList_load_rowG (by kernel_rfl) 28 (.tmp 13) rfl e6 rfl 28 (D6.cells B6 d6) (0, 0) _ z6.has Try.underlying28 rfl udp_info ?_))
      refine (rsameU_any _ _ D6 D6 A6 B6 c6 d6 _ k6.row z6.row (Nat.le_refl _) (Nat.le_refl _)).mono ?_
      rintro e w5 ⟨b5, rfl, hb5, hbb⟩
      obtain rfl : b5 = true := by rw [hb5.out, sameU_self]
      have hK := hK.below hbb
      clear hb5 hbb
      go_wp2_with fail
      refine (awake_any _).mono ?_
      rintro e w9 ⟨rfl, hb⟩
      have hK := hK.below hb
      go_wp2
      go_ret
      exact ⟨rfl, hK.bel⟩
end Go.Proofs.Ytaobnbjkhgcmlaa
