/-
  The walk of SegmentTCPs.
-/
import Derived.Test.YtaobnbjkhgcmlaaReg7
import Derived.Test.YtaobnbjkhgcmlaaPt7
import Derived.Test.YtaobnbjkhgcmlaaRpt4
import Derived.Test.YtaobnbjkhgcmlaaRpt6
import Derived.Test.YtaobnbjkhgcmlaaSg1
namespace Go.Proofs.Ytaobnbjkhgcmlaa
open Go.RowKit Go.Shelf

set_option maxRecDepth 100000 in
set_option maxHeartbeats 4000000 in
theorem tcps_walk (x : DE) (A : Option Addr) (c : Nat) (l : List Int) (w : World) (hx : x.ok) (y : By w.heap.size w A l.length c l) :
    Calls Try.prog 7 #[.agg x.cells, .slice A l.length c] w fun e w' => e = .returned (.bool true) ∧ Below w.heap.size w w' := by
  have hK : KL x A c l w (w.alloc (.cells x.cells 38)) := ⟨Has.newAt rfl, (y.alloc (Nat.le_refl _) _).more (by simp), (Below.refl _ _).alloc (Nat.le_refl _) _⟩
  go_enter Try.func7, Try.ntmps7
  obtain ⟨D4, hD4⟩ : ∃ D, tGot (pse4 x.a x.b l.length 6) l = D := ⟨_, rfl⟩
  obtain ⟨s4, hs4⟩ : ∃ s, tErr (pse4 x.a x.b l.length 6) l = s := ⟨_, rfl⟩
  have hD4 := Lib.hid hD4
  have hs4 := Lib.hid hs4
  go_wp2_with (first
    | (refine wl (.agg (u8s x.a).toArray) (by kernel_rfl) (by exact ex_loadAt (by exact rfl) (by exact rfl) (hK.hE.loadAt (P := Try.prog) 0 (u8s x.a) (DE.at_a hx) 34 Try.underlying34 rfl (by rw [u8s_length, hx.la]; kernel_rfl))) ?_)
    | (refine wl (.agg (u8s x.b).toArray) (by kernel_rfl) (by exact ex_loadAt (by exact rfl) (by exact rfl) (hK.hE.loadAt (P := Try.prog) 4 (u8s x.b) (DE.at_b hx) 34 Try.underlying34 rfl (by rw [u8s_length, hx.lb]; kernel_rfl))) ?_))
  refine (parseTCP4_any x.a x.b hx.la hx.lb hx.ra hx.rb A c l _ hK.y).mono ?_
  rw [hD4.out, hs4.out]
  rintro e w1 ⟨p4, rfl, hok, ho, ho2, hb⟩
  have hN : Has (w1.alloc (.cells #[.int .u16 0, .int .u16 0, .int .u32 0, .int .u32 0, .int .u8 0, .int .u16 0, .int .u16 0, .slice none 0 0, .slice none 0 0] 26)) w1.heap.size (.cells #[.int .u16 0, .int .u16 0, .int .u32 0, .int .u32 0, .int .u8 0, .int .u16 0, .int .u16 0, .slice none 0 0, .slice none 0 0] 26 (0, 0)) := Has.newAt rfl
  have hnew := KT.new (cs := #[.int .u16 0, .int .u16 0, .int .u32 0, .int .u32 0, .int .u8 0, .int .u16 0, .int .u16 0, .slice none 0 0, .slice none 0 0]) ho.row ho2.row
  have hK := (hK.below hb).below hnew.2
  have k4 := hnew.1
  clear hb hnew ho ho2 hok
  go_wp2_with (refine wpList_store_row rfl 26 (.tmp 5) (.tmp 20) rfl w1.heap.size _ rfl rfl 26 _ hN tcp_info rfl (by simp [DT.cells, Value.oneCell']) ?_)
  clear hN
  generalize (w1.alloc (.cells #[.int .u16 0, .int .u16 0, .int .u32 0, .int .u32 0, .int .u8 0, .int .u16 0, .int .u16 0, .slice none 0 0, .slice none 0 0] 26)).setRow w1.heap.size (D4.cells p4) = W at hK k4 ⊢
  generalize w1.heap.size = g4 at k4 ⊢
  refine wp_region_held_drew (S := SG W) (by kernel_rfl) ⟨below_drew _ _⟩ (fun hS => ?_)
  generalize W.drew = W0 at hS ⊢
  -- REGION 2
  refine tk (i := 0) (.pointer (some ⟨w.heap.size, 0, none⟩)) hS rfl (by kernel_rfl) (by kernel_rfl) (by kernel_rfl) (fun _ _ _ h => h) (by kernel_rfl) (by intro _ _; exact ex_field 0 3 (by exact rfl) Try.underlying38 (by exact rfl) rfl (by kernel_rfl) (by exact rfl)) ?_
  simp only [Act.put, List.setIfInBounds_toArray, List.set_cons_zero, List.set_cons_succ]
  refine tk (i := 1) (.slice (some ⟨w.heap.size, 0, none⟩) 4 4) hS rfl (by kernel_rfl) (by kernel_rfl) (by kernel_rfl) (fun _ _ _ h => h) (by kernel_rfl) (by intro _ _; exact ex_arr (by exact rfl) Try.underlying34 (by kernel_rfl) (by exact rfl)) ?_
  simp only [Act.put, List.setIfInBounds_toArray, List.set_cons_zero, List.set_cons_succ]
  refine tk (i := 2) (.pointer (some ⟨w.heap.size, 4, none⟩)) hS rfl (by kernel_rfl) (by kernel_rfl) (by kernel_rfl) (fun _ _ _ h => h) (by kernel_rfl) (by intro _ _; exact ex_field 4 3 (by exact rfl) Try.underlying38 (by exact rfl) rfl (by kernel_rfl) (by exact rfl)) ?_
  simp only [Act.put, List.setIfInBounds_toArray, List.set_cons_zero, List.set_cons_succ]
  refine tk (i := 3) (.slice (some ⟨w.heap.size, 4, none⟩) 4 4) hS rfl (by kernel_rfl) (by kernel_rfl) (by kernel_rfl) (fun _ _ _ h => h) (by kernel_rfl) (by intro _ _; exact ex_arr (by exact rfl) Try.underlying34 (by kernel_rfl) (by exact rfl)) ?_
  simp only [Act.put, List.setIfInBounds_toArray, List.set_cons_zero, List.set_cons_succ]
  refine tk (i := 4) (.slice A l.length c) hS rfl (by kernel_rfl) (by kernel_rfl) (by kernel_rfl) (fun _ _ _ h => h) (by kernel_rfl) (by intro _ _; exact rfl) ?_
  simp only [Act.put, List.setIfInBounds_toArray, List.set_cons_zero, List.set_cons_succ]
  refine tk_two (by kernel_rfl) (op_callx (i := 5) (fun v w' => ∃ p8 : WT, v = .tuple #[.agg (D4.cells p8), .int .i64 s4] ∧ OwnB w' W0.heap.size (.slice p8.oA D4.ol.length p8.oc) D4.ol ∧ OwnB w' W0.heap.size (.slice p8.bA D4.bl.length p8.bc) D4.bl ∧ Below W0.heap.size W0 w') rfl (by kernel_rfl) (by exact ex_call (by exact rfl) Try.func30 (by kernel_rfl) (by kernel_rfl) (by simp only [List.map_toArray, List.map_cons, List.map_nil] <;> rfl)) (by have h := rptcp4_any x.a x.b hx.la hx.lb _ _ _ _ A c l _ (By.mid (hK.hE.below hS.b hK.hE.lt) (Nat.lt_of_lt_of_le hK.hE.lt hS.big) 0 4 x.a hx.ra hx.la (by decide) (DE.at_a hx)) (By.mid (hK.hE.below hS.b hK.hE.lt) (Nat.lt_of_lt_of_le hK.hE.lt hS.big) 4 4 x.b hx.rb hx.lb (by decide) (DE.at_b hx)) ((hK.y.below hS.b (Nat.le_refl _)).more hS.big); rw [hD4.out, hs4.out] at h; exact h.mono fun e w' g => by obtain ⟨p8, rfl, _, ho, ho2, hb⟩ := g; exact ⟨_, rfl, ⟨p8, rfl, ho, ho2, hb⟩, hS.keep (hb.mono hS.big)⟩) ?_) (op_alloc (i := 9) (#[.int .u16 0, .int .u16 0, .int .u32 0, .int .u32 0, .int .u8 0, .int .u16 0, .int .u16 0, .slice none 0 0, .slice none 0 0]) rfl (by kernel_rfl) rfl (by kernel_rfl) (fun _ hb => hS.keep (hb.mono hS.big)) ?_)
  case' refine_1 =>
    rintro v1 W1 ⟨r4, rfl, ho, ho2, hbc⟩ hS1
    try replace hz := hz.below hbc hz.lt
    simp only [Act.put, List.setIfInBounds_toArray, List.set_cons_zero, List.set_cons_succ]
    refine tk (i := 6) (.tuple #[.agg (D4.cells r4), .int .i64 s4]) hS1 rfl (by kernel_rfl) (by kernel_rfl) (by kernel_rfl) (fun _ _ _ h => h) (by kernel_rfl) (by intro _ _; exact rfl) ?_
    simp only [Act.put, List.setIfInBounds_toArray, List.set_cons_zero, List.set_cons_succ]
    refine tk (i := 7) (.agg (D4.cells r4)) hS1 rfl (by kernel_rfl) (by kernel_rfl) (by kernel_rfl) (fun _ _ _ h => h) (by kernel_rfl) (by intro _ _; exact rfl) ?_
    simp only [Act.put, List.setIfInBounds_toArray, List.set_cons_zero, List.set_cons_succ]
    refine tk (i := 8) (.int .i64 s4) hS1 rfl (by kernel_rfl) (by kernel_rfl) (by kernel_rfl) (fun _ _ _ h => h) (by kernel_rfl) (by intro _ _; exact rfl) ?_
    simp only [Act.put, List.setIfInBounds_toArray, List.set_cons_zero, List.set_cons_succ]
    refine tk_one (by kernel_rfl) (op_alloc (i := 9) (#[.int .u16 0, .int .u16 0, .int .u32 0, .int .u32 0, .int .u8 0, .int .u16 0, .int .u16 0, .slice none 0 0, .slice none 0 0]) rfl (by kernel_rfl) rfl (by kernel_rfl) (fun _ hb => hS1.keep (hb.mono hS1.big)) ?_)
    intro e4 W2 hz hge hsz hba hS2
    simp only [Act.put, List.setIfInBounds_toArray, List.set_cons_zero, List.set_cons_succ]
    have hrow : By (W2.setRow e4 (D4.cells r4)).heap.size (W2.setRow e4 (D4.cells r4)) r4.oA D4.ol.length r4.oc D4.ol := by first | exact (ho.row.below (hba.trans (below_setRow'.mono hge)) (Nat.le_refl _)).more (hba.trans (below_setRow'.mono hge)).size | exact (ho.setRow (g := e4) (cs := (D4.cells r4)) (by omega)).row
    have hrow2 : By (W2.setRow e4 (D4.cells r4)).heap.size (W2.setRow e4 (D4.cells r4)) r4.bA D4.bl.length r4.bc D4.bl := by first | exact (ho2.row.below (hba.trans (below_setRow'.mono hge)) (Nat.le_refl _)).more (hba.trans (below_setRow'.mono hge)).size | exact (ho2.setRow (g := e4) (cs := (D4.cells r4)) (by omega)).row
    have hgb : W.heap.size ≤ e4 := by first | exact Nat.le_trans hS1.big hge | exact Nat.le_trans hS.big hge
    refine tk_store (i := 10) (by kernel_rfl) rfl (by kernel_rfl) rfl rfl rfl hz tcp_info rfl (by simp [DT.cells, Value.oneCell']) (hS2.keep (below_setRow'.mono hgb)) ?_
    have hS9 := hS2.keep ((below_setRow' (w := W2) (g := e4) (cs := (D4.cells r4))).mono hgb)
    have z4 : KT _ e4 D4 r4 := ⟨hz.setRow_same, hrow, hrow2⟩
    generalize W2.setRow e4 (D4.cells r4) = W9 at hS9 z4 ⊢
    clear hrow hrow2 hz hsz hge hgb hba hbc ho ho2 hS1 hS2
    simp only [Act.put, List.setIfInBounds_toArray, List.set_cons_zero, List.set_cons_succ]
    refine tk (i := 11) (.int .i64 s4) hS9 rfl (by kernel_rfl) (by kernel_rfl) (by kernel_rfl) (fun _ _ _ h => h) (by kernel_rfl) (by intro _ _; exact rfl) ?_
    simp only [Act.put, List.setIfInBounds_toArray, List.set_cons_zero, List.set_cons_succ]
    refine wpAnyH_done (by kernel_rfl) ?_ _
    have hK := hK.below hS9.b
    have k4 := k4.below hS9.b
    clear hS hS9
  case' refine_2 =>
    intro e4 W2 hz hge hsz hba hS2
    simp only [Act.put, List.setIfInBounds_toArray, List.set_cons_zero, List.set_cons_succ]
    refine tk_one (by kernel_rfl) (op_callx (i := 5) (fun v w' => ∃ p8 : WT, v = .tuple #[.agg (D4.cells p8), .int .i64 s4] ∧ OwnB w' W2.heap.size (.slice p8.oA D4.ol.length p8.oc) D4.ol ∧ OwnB w' W2.heap.size (.slice p8.bA D4.bl.length p8.bc) D4.bl ∧ Below W2.heap.size W2 w') rfl (by kernel_rfl) (by exact ex_call (by exact rfl) Try.func30 (by kernel_rfl) (by kernel_rfl) (by simp only [List.map_toArray, List.map_cons, List.map_nil] <;> rfl)) (by have h := rptcp4_any x.a x.b hx.la hx.lb _ _ _ _ A c l _ (By.mid (hK.hE.below hS2.b hK.hE.lt) (Nat.lt_of_lt_of_le hK.hE.lt hS2.big) 0 4 x.a hx.ra hx.la (by decide) (DE.at_a hx)) (By.mid (hK.hE.below hS2.b hK.hE.lt) (Nat.lt_of_lt_of_le hK.hE.lt hS2.big) 4 4 x.b hx.rb hx.lb (by decide) (DE.at_b hx)) ((hK.y.below hS2.b (Nat.le_refl _)).more hS2.big); rw [hD4.out, hs4.out] at h; exact h.mono fun e w' g => by obtain ⟨p8, rfl, _, ho, ho2, hb⟩ := g; exact ⟨_, rfl, ⟨p8, rfl, ho, ho2, hb⟩, hS2.keep (hb.mono hS2.big)⟩) ?_)
    rintro v1 W1 ⟨r4, rfl, ho, ho2, hbc⟩ hS1
    try replace hz := hz.below hbc hz.lt
    simp only [Act.put, List.setIfInBounds_toArray, List.set_cons_zero, List.set_cons_succ]
    refine tk (i := 6) (.tuple #[.agg (D4.cells r4), .int .i64 s4]) hS1 rfl (by kernel_rfl) (by kernel_rfl) (by kernel_rfl) (fun _ _ _ h => h) (by kernel_rfl) (by intro _ _; exact rfl) ?_
    simp only [Act.put, List.setIfInBounds_toArray, List.set_cons_zero, List.set_cons_succ]
    refine tk (i := 7) (.agg (D4.cells r4)) hS1 rfl (by kernel_rfl) (by kernel_rfl) (by kernel_rfl) (fun _ _ _ h => h) (by kernel_rfl) (by intro _ _; exact rfl) ?_
    simp only [Act.put, List.setIfInBounds_toArray, List.set_cons_zero, List.set_cons_succ]
    refine tk (i := 8) (.int .i64 s4) hS1 rfl (by kernel_rfl) (by kernel_rfl) (by kernel_rfl) (fun _ _ _ h => h) (by kernel_rfl) (by intro _ _; exact rfl) ?_
    simp only [Act.put, List.setIfInBounds_toArray, List.set_cons_zero, List.set_cons_succ]
    have hrow : By (W1.setRow e4 (D4.cells r4)).heap.size (W1.setRow e4 (D4.cells r4)) r4.oA D4.ol.length r4.oc D4.ol := by first | exact (ho.row.below (hba.trans (below_setRow'.mono hge)) (Nat.le_refl _)).more (hba.trans (below_setRow'.mono hge)).size | exact (ho.setRow (g := e4) (cs := (D4.cells r4)) (by omega)).row
    have hrow2 : By (W1.setRow e4 (D4.cells r4)).heap.size (W1.setRow e4 (D4.cells r4)) r4.bA D4.bl.length r4.bc D4.bl := by first | exact (ho2.row.below (hba.trans (below_setRow'.mono hge)) (Nat.le_refl _)).more (hba.trans (below_setRow'.mono hge)).size | exact (ho2.setRow (g := e4) (cs := (D4.cells r4)) (by omega)).row
    have hgb : W.heap.size ≤ e4 := by first | exact Nat.le_trans hS1.big hge | exact Nat.le_trans hS.big hge
    refine tk_store (i := 10) (by kernel_rfl) rfl (by kernel_rfl) rfl rfl rfl hz tcp_info rfl (by simp [DT.cells, Value.oneCell']) (hS1.keep (below_setRow'.mono hgb)) ?_
    have hS9 := hS1.keep ((below_setRow' (w := W1) (g := e4) (cs := (D4.cells r4))).mono hgb)
    have z4 : KT _ e4 D4 r4 := ⟨hz.setRow_same, hrow, hrow2⟩
    generalize W1.setRow e4 (D4.cells r4) = W9 at hS9 z4 ⊢
    clear hrow hrow2 hz hsz hge hgb hba hbc ho ho2 hS1 hS2
    simp only [Act.put, List.setIfInBounds_toArray, List.set_cons_zero, List.set_cons_succ]
    refine tk (i := 11) (.int .i64 s4) hS9 rfl (by kernel_rfl) (by kernel_rfl) (by kernel_rfl) (fun _ _ _ h => h) (by kernel_rfl) (by intro _ _; exact rfl) ?_
    simp only [Act.put, List.setIfInBounds_toArray, List.set_cons_zero, List.set_cons_succ]
    refine wpAnyH_done (by kernel_rfl) ?_ _
    have hK := hK.below hS9.b
    have k4 := k4.below hS9.b
    clear hS hS9
  -- END 2
  all_goals
    obtain ⟨D6, hD6⟩ : ∃ D, tGot (pse6 x.c x.d l.length 6) l = D := ⟨_, rfl⟩
    obtain ⟨s6, hs6⟩ : ∃ s, tErr (pse6 x.c x.d l.length 6) l = s := ⟨_, rfl⟩
    have hD6 := Lib.hid hD6
    have hs6 := Lib.hid hs6
    go_wp2_with (first
      | (refine wl (.agg (u8s x.c).toArray) (by kernel_rfl) (by exact ex_loadAt (by exact rfl) (by exact rfl) (hK.hE.loadAt (P := Try.prog) 8 (u8s x.c) (DE.at_c hx) 36 Try.underlying36 rfl (by rw [u8s_length, hx.lc]; kernel_rfl))) ?_)
      | (refine wl (.agg (u8s x.d).toArray) (by kernel_rfl) (by exact ex_loadAt (by exact rfl) (by exact rfl) (hK.hE.loadAt (P := Try.prog) 24 (u8s x.d) (DE.at_d hx) 36 Try.underlying36 rfl (by rw [u8s_length, hx.ld]; kernel_rfl))) ?_))
    refine (parseTCP6_any x.c x.d hx.lc hx.ld hx.rc hx.rd A c l _ hK.y).mono ?_
    rw [hD6.out, hs6.out]
    rintro e w1 ⟨p6, rfl, hok, ho, ho2, hb⟩
    have hN : Has (w1.alloc (.cells #[.int .u16 0, .int .u16 0, .int .u32 0, .int .u32 0, .int .u8 0, .int .u16 0, .int .u16 0, .slice none 0 0, .slice none 0 0] 26)) w1.heap.size (.cells #[.int .u16 0, .int .u16 0, .int .u32 0, .int .u32 0, .int .u8 0, .int .u16 0, .int .u16 0, .slice none 0 0, .slice none 0 0] 26 (0, 0)) := Has.newAt rfl
    have hnew := KT.new (cs := #[.int .u16 0, .int .u16 0, .int .u32 0, .int .u32 0, .int .u8 0, .int .u16 0, .int .u16 0, .slice none 0 0, .slice none 0 0]) ho.row ho2.row
    have hK := (hK.below hb).below hnew.2
    have k4 := (k4.below hb).below hnew.2
    have z4 := (z4.below hb).below hnew.2
    have k6 := hnew.1
    clear hb hnew ho ho2 hok
    go_wp2_with (refine wpList_store_row rfl 26 (.tmp 9) (.tmp 38) rfl w1.heap.size _ rfl rfl 26 _ hN tcp_info rfl (by simp [DT.cells, Value.oneCell']) ?_)
    clear hN
    generalize (w1.alloc (.cells #[.int .u16 0, .int .u16 0, .int .u32 0, .int .u32 0, .int .u8 0, .int .u16 0, .int .u16 0, .slice none 0 0, .slice none 0 0] 26)).setRow w1.heap.size (D6.cells p6) = W at hK k4 z4 k6 ⊢
    generalize w1.heap.size = g6 at k6 ⊢
    refine wp_region_held_drew (S := SG W) (by kernel_rfl) ⟨below_drew _ _⟩ (fun hS => ?_)
    generalize W.drew = W0 at hS ⊢
    -- REGION 4
    refine tk (i := 0) (.pointer (some ⟨w.heap.size, 8, none⟩)) hS rfl (by kernel_rfl) (by kernel_rfl) (by kernel_rfl) (fun _ _ _ h => h) (by kernel_rfl) (by intro _ _; exact ex_field 8 15 (by exact rfl) Try.underlying38 (by exact rfl) rfl (by kernel_rfl) (by exact rfl)) ?_
    simp only [Act.put, List.setIfInBounds_toArray, List.set_cons_zero, List.set_cons_succ]
    refine tk (i := 1) (.slice (some ⟨w.heap.size, 8, none⟩) 16 16) hS rfl (by kernel_rfl) (by kernel_rfl) (by kernel_rfl) (fun _ _ _ h => h) (by kernel_rfl) (by intro _ _; exact ex_arr (by exact rfl) Try.underlying36 (by kernel_rfl) (by exact rfl)) ?_
    simp only [Act.put, List.setIfInBounds_toArray, List.set_cons_zero, List.set_cons_succ]
    refine tk (i := 2) (.pointer (some ⟨w.heap.size, 24, none⟩)) hS rfl (by kernel_rfl) (by kernel_rfl) (by kernel_rfl) (fun _ _ _ h => h) (by kernel_rfl) (by intro _ _; exact ex_field 24 15 (by exact rfl) Try.underlying38 (by exact rfl) rfl (by kernel_rfl) (by exact rfl)) ?_
    simp only [Act.put, List.setIfInBounds_toArray, List.set_cons_zero, List.set_cons_succ]
    refine tk (i := 3) (.slice (some ⟨w.heap.size, 24, none⟩) 16 16) hS rfl (by kernel_rfl) (by kernel_rfl) (by kernel_rfl) (fun _ _ _ h => h) (by kernel_rfl) (by intro _ _; exact ex_arr (by exact rfl) Try.underlying36 (by kernel_rfl) (by exact rfl)) ?_
    simp only [Act.put, List.setIfInBounds_toArray, List.set_cons_zero, List.set_cons_succ]
    refine tk (i := 4) (.slice A l.length c) hS rfl (by kernel_rfl) (by kernel_rfl) (by kernel_rfl) (fun _ _ _ h => h) (by kernel_rfl) (by intro _ _; exact rfl) ?_
    simp only [Act.put, List.setIfInBounds_toArray, List.set_cons_zero, List.set_cons_succ]
    refine tk_two (by kernel_rfl) (op_callx (i := 5) (fun v w' => ∃ p8 : WT, v = .tuple #[.agg (D6.cells p8), .int .i64 s6] ∧ OwnB w' W0.heap.size (.slice p8.oA D6.ol.length p8.oc) D6.ol ∧ OwnB w' W0.heap.size (.slice p8.bA D6.bl.length p8.bc) D6.bl ∧ Below W0.heap.size W0 w') rfl (by kernel_rfl) (by exact ex_call (by exact rfl) Try.func30 (by kernel_rfl) (by kernel_rfl) (by simp only [List.map_toArray, List.map_cons, List.map_nil] <;> rfl)) (by have h := rptcp6_any x.c x.d hx.lc hx.ld _ _ _ _ A c l _ (By.mid (hK.hE.below hS.b hK.hE.lt) (Nat.lt_of_lt_of_le hK.hE.lt hS.big) 8 16 x.c hx.rc hx.lc (by decide) (DE.at_c hx)) (By.mid (hK.hE.below hS.b hK.hE.lt) (Nat.lt_of_lt_of_le hK.hE.lt hS.big) 24 16 x.d hx.rd hx.ld (by decide) (DE.at_d hx)) ((hK.y.below hS.b (Nat.le_refl _)).more hS.big); rw [hD6.out, hs6.out] at h; exact h.mono fun e w' g => by obtain ⟨p8, rfl, _, ho, ho2, hb⟩ := g; exact ⟨_, rfl, ⟨p8, rfl, ho, ho2, hb⟩, hS.keep (hb.mono hS.big)⟩) ?_) (op_alloc (i := 9) (#[.int .u16 0, .int .u16 0, .int .u32 0, .int .u32 0, .int .u8 0, .int .u16 0, .int .u16 0, .slice none 0 0, .slice none 0 0]) rfl (by kernel_rfl) rfl (by kernel_rfl) (fun _ hb => hS.keep (hb.mono hS.big)) ?_)
    case' refine_1 =>
      rintro v1 W1 ⟨r6, rfl, ho, ho2, hbc⟩ hS1
      try replace hz := hz.below hbc hz.lt
      simp only [Act.put, List.setIfInBounds_toArray, List.set_cons_zero, List.set_cons_succ]
      refine tk (i := 6) (.tuple #[.agg (D6.cells r6), .int .i64 s6]) hS1 rfl (by kernel_rfl) (by kernel_rfl) (by kernel_rfl) (fun _ _ _ h => h) (by kernel_rfl) (by intro _ _; exact rfl) ?_
      simp only [Act.put, List.setIfInBounds_toArray, List.set_cons_zero, List.set_cons_succ]
      refine tk (i := 7) (.agg (D6.cells r6)) hS1 rfl (by kernel_rfl) (by kernel_rfl) (by kernel_rfl) (fun _ _ _ h => h) (by kernel_rfl) (by intro _ _; exact rfl) ?_
      simp only [Act.put, List.setIfInBounds_toArray, List.set_cons_zero, List.set_cons_succ]
      refine tk (i := 8) (.int .i64 s6) hS1 rfl (by kernel_rfl) (by kernel_rfl) (by kernel_rfl) (fun _ _ _ h => h) (by kernel_rfl) (by intro _ _; exact rfl) ?_
      simp only [Act.put, List.setIfInBounds_toArray, List.set_cons_zero, List.set_cons_succ]
      refine tk_one (by kernel_rfl) (op_alloc (i := 9) (#[.int .u16 0, .int .u16 0, .int .u32 0, .int .u32 0, .int .u8 0, .int .u16 0, .int .u16 0, .slice none 0 0, .slice none 0 0]) rfl (by kernel_rfl) rfl (by kernel_rfl) (fun _ hb => hS1.keep (hb.mono hS1.big)) ?_)
      intro e6 W2 hz hge hsz hba hS2
      simp only [Act.put, List.setIfInBounds_toArray, List.set_cons_zero, List.set_cons_succ]
      have hrow : By (W2.setRow e6 (D6.cells r6)).heap.size (W2.setRow e6 (D6.cells r6)) r6.oA D6.ol.length r6.oc D6.ol := by first | exact (ho.row.below (hba.trans (below_setRow'.mono hge)) (Nat.le_refl _)).more (hba.trans (below_setRow'.mono hge)).size | exact (ho.setRow (g := e6) (cs := (D6.cells r6)) (by omega)).row
      have hrow2 : By (W2.setRow e6 (D6.cells r6)).heap.size (W2.setRow e6 (D6.cells r6)) r6.bA D6.bl.length r6.bc D6.bl := by first | exact (ho2.row.below (hba.trans (below_setRow'.mono hge)) (Nat.le_refl _)).more (hba.trans (below_setRow'.mono hge)).size | exact (ho2.setRow (g := e6) (cs := (D6.cells r6)) (by omega)).row
      have hgb : W.heap.size ≤ e6 := by first | exact Nat.le_trans hS1.big hge | exact Nat.le_trans hS.big hge
      refine tk_store (i := 10) (by kernel_rfl) rfl (by kernel_rfl) rfl rfl rfl hz tcp_info rfl (by simp [DT.cells, Value.oneCell']) (hS2.keep (below_setRow'.mono hgb)) ?_
      have hS9 := hS2.keep ((below_setRow' (w := W2) (g := e6) (cs := (D6.cells r6))).mono hgb)
      have z6 : KT _ e6 D6 r6 := ⟨hz.setRow_same, hrow, hrow2⟩
      generalize W2.setRow e6 (D6.cells r6) = W9 at hS9 z6 ⊢
      clear hrow hrow2 hz hsz hge hgb hba hbc ho ho2 hS1 hS2
      simp only [Act.put, List.setIfInBounds_toArray, List.set_cons_zero, List.set_cons_succ]
      refine tk (i := 11) (.int .i64 s6) hS9 rfl (by kernel_rfl) (by kernel_rfl) (by kernel_rfl) (fun _ _ _ h => h) (by kernel_rfl) (by intro _ _; exact rfl) ?_
      simp only [Act.put, List.setIfInBounds_toArray, List.set_cons_zero, List.set_cons_succ]
      refine wpAnyH_done (by kernel_rfl) ?_ _
      have hK := hK.below hS9.b
      have k4 := k4.below hS9.b
      have z4 := z4.below hS9.b
      have k6 := k6.below hS9.b
      clear hS hS9
    case' refine_2 =>
      intro e6 W2 hz hge hsz hba hS2
      simp only [Act.put, List.setIfInBounds_toArray, List.set_cons_zero, List.set_cons_succ]
      refine tk_one (by kernel_rfl) (op_callx (i := 5) (fun v w' => ∃ p8 : WT, v = .tuple #[.agg (D6.cells p8), .int .i64 s6] ∧ OwnB w' W2.heap.size (.slice p8.oA D6.ol.length p8.oc) D6.ol ∧ OwnB w' W2.heap.size (.slice p8.bA D6.bl.length p8.bc) D6.bl ∧ Below W2.heap.size W2 w') rfl (by kernel_rfl) (by exact ex_call (by exact rfl) Try.func30 (by kernel_rfl) (by kernel_rfl) (by simp only [List.map_toArray, List.map_cons, List.map_nil] <;> rfl)) (by have h := rptcp6_any x.c x.d hx.lc hx.ld _ _ _ _ A c l _ (By.mid (hK.hE.below hS2.b hK.hE.lt) (Nat.lt_of_lt_of_le hK.hE.lt hS2.big) 8 16 x.c hx.rc hx.lc (by decide) (DE.at_c hx)) (By.mid (hK.hE.below hS2.b hK.hE.lt) (Nat.lt_of_lt_of_le hK.hE.lt hS2.big) 24 16 x.d hx.rd hx.ld (by decide) (DE.at_d hx)) ((hK.y.below hS2.b (Nat.le_refl _)).more hS2.big); rw [hD6.out, hs6.out] at h; exact h.mono fun e w' g => by obtain ⟨p8, rfl, _, ho, ho2, hb⟩ := g; exact ⟨_, rfl, ⟨p8, rfl, ho, ho2, hb⟩, hS2.keep (hb.mono hS2.big)⟩) ?_)
      rintro v1 W1 ⟨r6, rfl, ho, ho2, hbc⟩ hS1
      try replace hz := hz.below hbc hz.lt
      simp only [Act.put, List.setIfInBounds_toArray, List.set_cons_zero, List.set_cons_succ]
      refine tk (i := 6) (.tuple #[.agg (D6.cells r6), .int .i64 s6]) hS1 rfl (by kernel_rfl) (by kernel_rfl) (by kernel_rfl) (fun _ _ _ h => h) (by kernel_rfl) (by intro _ _; exact rfl) ?_
      simp only [Act.put, List.setIfInBounds_toArray, List.set_cons_zero, List.set_cons_succ]
      refine tk (i := 7) (.agg (D6.cells r6)) hS1 rfl (by kernel_rfl) (by kernel_rfl) (by kernel_rfl) (fun _ _ _ h => h) (by kernel_rfl) (by intro _ _; exact rfl) ?_
      simp only [Act.put, List.setIfInBounds_toArray, List.set_cons_zero, List.set_cons_succ]
      refine tk (i := 8) (.int .i64 s6) hS1 rfl (by kernel_rfl) (by kernel_rfl) (by kernel_rfl) (fun _ _ _ h => h) (by kernel_rfl) (by intro _ _; exact rfl) ?_
      simp only [Act.put, List.setIfInBounds_toArray, List.set_cons_zero, List.set_cons_succ]
      have hrow : By (W1.setRow e6 (D6.cells r6)).heap.size (W1.setRow e6 (D6.cells r6)) r6.oA D6.ol.length r6.oc D6.ol := by first | exact (ho.row.below (hba.trans (below_setRow'.mono hge)) (Nat.le_refl _)).more (hba.trans (below_setRow'.mono hge)).size | exact (ho.setRow (g := e6) (cs := (D6.cells r6)) (by omega)).row
      have hrow2 : By (W1.setRow e6 (D6.cells r6)).heap.size (W1.setRow e6 (D6.cells r6)) r6.bA D6.bl.length r6.bc D6.bl := by first | exact (ho2.row.below (hba.trans (below_setRow'.mono hge)) (Nat.le_refl _)).more (hba.trans (below_setRow'.mono hge)).size | exact (ho2.setRow (g := e6) (cs := (D6.cells r6)) (by omega)).row
      have hgb : W.heap.size ≤ e6 := by first | exact Nat.le_trans hS1.big hge | exact Nat.le_trans hS.big hge
      refine tk_store (i := 10) (by kernel_rfl) rfl (by kernel_rfl) rfl rfl rfl hz tcp_info rfl (by simp [DT.cells, Value.oneCell']) (hS1.keep (below_setRow'.mono hgb)) ?_
      have hS9 := hS1.keep ((below_setRow' (w := W1) (g := e6) (cs := (D6.cells r6))).mono hgb)
      have z6 : KT _ e6 D6 r6 := ⟨hz.setRow_same, hrow, hrow2⟩
      generalize W1.setRow e6 (D6.cells r6) = W9 at hS9 z6 ⊢
      clear hrow hrow2 hz hsz hge hgb hba hbc ho ho2 hS1 hS2
      simp only [Act.put, List.setIfInBounds_toArray, List.set_cons_zero, List.set_cons_succ]
      refine tk (i := 11) (.int .i64 s6) hS9 rfl (by kernel_rfl) (by kernel_rfl) (by kernel_rfl) (fun _ _ _ h => h) (by kernel_rfl) (by intro _ _; exact rfl) ?_
      simp only [Act.put, List.setIfInBounds_toArray, List.set_cons_zero, List.set_cons_succ]
      refine wpAnyH_done (by kernel_rfl) ?_ _
      have hK := hK.below hS9.b
      have k4 := k4.below hS9.b
      have z4 := z4.below hS9.b
      have k6 := k6.below hS9.b
      clear hS hS9
    -- END 4
    all_goals

      go_wp2_with (first | (refine wpList_load_row rfl 26 (.tmp 5) rfl g4 rfl 26 (D4.cells p4) (0, 0) _ k4.has Try.underlying26 rfl tcp_info ?_) | (refine wpList_load_row rfl 26 (.tmp 7) rfl e4 rfl 26 (D4.cells r4) (0, 0) _ z4.has Try.underlying26 rfl tcp_info ?_))
      refine (rsameT_any _ _ D4 D4 p4 r4 _ k4.opt z4.opt k4.row z4.row (Nat.le_refl _) (Nat.le_refl _)).mono ?_
      rintro e w5 ⟨b5, rfl, hb5, hbb⟩
      obtain rfl : b5 = true := by rw [hb5.out, sameT_self]
      have hK := hK.below hbb
      have k6 := k6.below hbb
      have z6 := z6.below hbb
      clear hb5 hbb
      go_wp2_with (first | (refine wpList_load_rowG (by kernel_rfl) 26 (.tmp 9) rfl g6 rfl 26 (D6.cells p6) (0, 0) _ k6.has Try.underlying26 rfl tcp_info ?_) | (refine wpList_load_rowG (by kernel_rfl) 26 (.tmp 11) rfl e6 rfl 26 (D6.cells r6) (0, 0) _ z6.has Try.underlying26 rfl tcp_info ?_))
      refine (rsameT_any _ _ D6 D6 p6 r6 _ k6.opt z6.opt k6.row z6.row (Nat.le_refl _) (Nat.le_refl _)).mono ?_
      rintro e w5 ⟨b5, rfl, hb5, hbb⟩
      obtain rfl : b5 = true := by rw [hb5.out, sameT_self]
      have hK := hK.below hbb
      clear hb5 hbb
      go_wp2_with fail
      refine (awake_any _).mono ?_
      rintro e w9 ⟨rfl, hb⟩
      have hK := hK.below hb
      go_wp2
      go_ret
      exact ⟨rfl, hK.bel⟩
end Go.Proofs.Ytaobnbjkhgcmlaa
