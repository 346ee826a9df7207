/-
  The walk of the reference's ParseTCP over IPv4.
-/
import Derived.Test.YtaobnbjkhgcmlaaPt4
import Derived.Test.YtaobnbjkhgcmlaaReg8
namespace Go.Proofs.Ytaobnbjkhgcmlaa
open Go.RowKit Go.Shelf

set_option maxRecDepth 100000 in
set_option maxHeartbeats 4000000 in
theorem rptcp4_any (a b : List Int) (ha : a.length = 4) (hb : b.length = 4) (A1 A2 : Option Addr) (c1 c2 : Nat) (A : Option Addr) (c : Nat) (l : List Int) (w : World) (y1 : By w.heap.size w A1 4 c1 a) (y2 : By w.heap.size w A2 4 c2 b) (y : By w.heap.size w A l.length c l) :
    Calls Try.prog 30 #[.slice A1 4 c1, .slice A2 4 c2, .slice A l.length c] w fun e w' => ToldT (tGot (pse4 a b l.length 6) l) (tErr (pse4 a b l.length 6) l) w e w' := by
  obtain ⟨PS, hPS⟩ : ∃ PS, pse4 a b (l.length : Int) 6 = PS := ⟨_, rfl⟩
  have hpl : PS.length ≤ 100 := by rw [← hPS, pse4_len ha hb]; decide
  rw [hPS]
  have hH1 : Has (w.alloc (.cells #[.int .u16 0, .int .u16 0, .int .u32 0, .int .u32 0, .int .u8 0, .int .u16 0, .int .u16 0, .slice none 0 0, .slice none 0 0] 26)) w.heap.size (.cells #[.int .u16 0, .int .u16 0, .int .u32 0, .int .u32 0, .int .u8 0, .int .u16 0, .int .u16 0, .slice none 0 0, .slice none 0 0] 26 (0, 0)) := Has.newAt rfl
  have hB1 : Below w.heap.size w (w.alloc (.cells #[.int .u16 0, .int .u16 0, .int .u32 0, .int .u32 0, .int .u8 0, .int .u16 0, .int .u16 0, .slice none 0 0, .slice none 0 0] 26)) := (Below.refl _ _).alloc (Nat.le_refl _) _
  have hbig := Nat.le_trans y.cap y.big
  by_cases h20 : l.length < 20
  · have he : tErr PS l = 60 := by unfold tErr; rw [if_pos h20]
    have hd := tGot_err (show tErr PS l ≠ 0 by rw [he]; decide)
    rw [hd, he]
    clear hd he
    go_enter Try.func30, Try.ntmps30
    go_wp2_with (refine wpList_store_has rfl 26 (.tmp 6) (.tmp 13) rfl w.heap.size _ rfl rfl 26 _ hH1 tcp_info rfl (by simp [Value.oneCell']) ?_; intro w9 hH9 hb9)
    exact bodyPost_ret (res_cell2 Try.results30 rfl (hH9.load (P := Try.prog) 26 Try.underlying26 rfl tcp_info) rfl) rfl ⟨noP, rfl, noT_ok, OwnB.nil _ _, OwnB.nil _ _, hB1.trans (hb9.mono (Nat.le_refl _))⟩
  have r12 := getD_rng y.rng 12
  obtain ⟨b0, off, rfl, hbl, -⟩ := y.row.at_ (by omega)
  have d12 := (y.below hB1 (Nat.le_refl _)).at (k := 12) (by omega)
  have hth : tHead l = l.getD 12 0 / 16 * 4 := rfl
  obtain ⟨x12, hx12⟩ : ∃ x, l.getD 12 0 = x := ⟨_, rfl⟩
  rw [hx12] at d12 r12 hth
  have z12 : (12 : Int) < (l.length : Int) := by omega
  obtain ⟨h, hh⟩ : ∃ h : Nat, x12 / 16 * 4 = (h : Int) := ⟨(x12 / 16 * 4).toNat, by omega⟩
  have hthn : (tHead l).toNat = h := by rw [hth, hh]; rfl
  rw [hh] at hth
  have hhb : h ≤ 60 := by omega
  by_cases h61 : h < 20 ∨ l.length < h
  · have he : tErr PS l = 61 := by unfold tErr; rw [if_neg h20, hth, if_pos (by omega)]
    have hd := tGot_err (show tErr PS l ≠ 0 by rw [he]; decide)
    rw [hd, he]
    clear hd he hth hthn hx12
    rcases Nat.lt_or_ge h 20 with h1 | h1
    · have h1 : (h : Int) < 20 := by omega
      clear h61
      go_enter Try.func30, Try.ntmps30
      go_wp2_with (refine wpList_store_has rfl 26 (.tmp 6) (.tmp 28) rfl w.heap.size _ rfl rfl 26 _ hH1 tcp_info rfl (by simp [Value.oneCell']) ?_; intro w9 hH9 hb9)
      exact bodyPost_ret (res_cell2 Try.results30 rfl (hH9.load (P := Try.prog) 26 Try.underlying26 rfl tcp_info) rfl) rfl ⟨noP, rfl, noT_ok, OwnB.nil _ _, OwnB.nil _ _, hB1.trans (hb9.mono (Nat.le_refl _))⟩
    · have h2 : (l.length : Int) < (h : Int) := by omega
      have h1 : (20 : Int) ≤ (h : Int) := by omega
      clear h61
      go_enter Try.func30, Try.ntmps30
      go_wp2_with (refine wpList_store_has rfl 26 (.tmp 6) (.tmp 28) rfl w.heap.size _ rfl rfl 26 _ hH1 tcp_info rfl (by simp [Value.oneCell']) ?_; intro w9 hH9 hb9)
      exact bodyPost_ret (res_cell2 Try.results30 rfl (hH9.load (P := Try.prog) 26 Try.underlying26 rfl tcp_info) rfl) rfl ⟨noP, rfl, noT_ok, OwnB.nil _ _, OwnB.nil _ _, hB1.trans (hb9.mono (Nat.le_refl _))⟩
  have h1 : (20 : Int) ≤ (h : Int) := by omega
  have h2 : (h : Int) ≤ (l.length : Int) := by omega
  by_cases h62 : 65535 < l.length
  · have he : tErr PS l = 2 := by unfold tErr; rw [if_neg h20, hth, if_neg (by omega), if_pos h62]
    have hd := tGot_err (show tErr PS l ≠ 0 by rw [he]; decide)
    rw [hd, he]
    clear hd he hth hthn hx12 h61
    go_enter Try.func30, Try.ntmps30
    go_wp2_with (refine wpList_store_has rfl 26 (.tmp 6) (.tmp 32) rfl w.heap.size _ rfl rfl 26 _ hH1 tcp_info rfl (by simp [Value.oneCell']) ?_; intro w9 hH9 hb9)
    exact bodyPost_ret (res_cell2 Try.results30 rfl (hH9.load (P := Try.prog) 26 Try.underlying26 rfl tcp_info) rfl) rfl ⟨noP, rfl, noT_ok, OwnB.nil _ _, OwnB.nil _ _, hB1.trans (hb9.mono (Nat.le_refl _))⟩
  by_cases hg : sumw (PS ++ l) = 65535
  case neg =>
    have he : tErr PS l = 62 := by unfold tErr; rw [if_neg h20, hth, if_neg (by omega), if_neg h62, if_pos hg]
    have hd := tGot_err (show tErr PS l ≠ 0 by rw [he]; decide)
    rw [hd, he]
    have hg := Lib.hid hg
    clear hd he hth hthn h61
    go_enter Try.func30, Try.ntmps30
    go_wp2_with fail
    refine (rpse4_any a b ha hb 6 (l.length : Int) (by decide) (by decide) (by omega) (by omega) A1 A2 c1 c2 _ ((y1.below hB1 (Nat.le_refl _)).more hB1.size) ((y2.below hB1 (Nat.le_refl _)).more hB1.size)).mono ?_
    rintro e w3 ⟨v3, rfl, o3, hb⟩
    rw [hPS] at o3
    obtain ⟨A5, k5, rfl, y5⟩ := o3.by_
    have hH3 := hH1.below hb hH1.lt
    have hB3 := hB1.trans (hb.mono hB1.size)
    have yl := (y.below hB3 (Nat.le_refl _)).more hB3.size
    have d12 := (y.below hB3 (Nat.le_refl _)).at (k := 12) (by omega)
    rw [hx12] at d12
    clear hb o3
    go_wp2_with fail
    refine (rfold_any _ _ [(A5, k5, PS), (some ⟨b0, off, none⟩, c, l)] _ (Parts.blk (t := 24) (fz := (0, 0)) (Has.newAt rfl) (Nat.le_refl _) rfl (all2 ((y5.alloc (Nat.le_refl _) _).more (by simp)) ((yl.alloc (Nat.le_refl _) _).more (by simp))) (by simp)) (by simp [flat]; omega)).mono ?_
    rintro e w4 ⟨rfl, hb⟩
    rw [show flat [(A5, k5, PS), (some ⟨b0, off, none⟩, c, l)] = PS ++ l from by simp [flat]]
    have hz2 : (sumw (PS ++ l) != 65535) = true := by simp [hg.out]
    generalize sumw (PS ++ l) = qq at hz2 ⊢
    have hb : Below w3.heap.size w3 w4 := ((Below.refl _ _).alloc (Nat.le_refl _) _).trans (hb.mono (by simp))
    have hH4 := hH3.below hb hH3.lt
    have hB4 := hB3.trans (hb.mono hB3.size)
    clear hb d12
    go_wp2_with (refine wpList_store_has rfl 26 (.tmp 6) (.tmp 42) rfl w.heap.size _ rfl rfl 26 _ hH4 tcp_info rfl (by simp [Value.oneCell']) ?_; intro w9 hH9 hb9)
    exact bodyPost_ret (res_cell2 Try.results30 rfl (hH9.load (P := Try.prog) 26 Try.underlying26 rfl tcp_info) rfl) rfl ⟨noP, rfl, noT_ok, OwnB.nil _ _, OwnB.nil _ _, hB4.trans (hb9.mono (Nat.le_refl _))⟩
  case pos =>
    have he : tErr PS l = 0 := by unfold tErr; rw [if_neg h20, hth, if_neg (by omega), if_neg h62, if_neg (by simp [hg])]
    have hd := tGot_ok he
    rw [hd, he]
    have hg := Lib.hid hg
    have htof : tOf l = ⟨be2 l 0, be2 l 2, be4 l 4, be4 l 8, l.getD 13 0 % 64, be2 l 14, be2 l 18, (l.take h).drop 20, l.drop h⟩ := by simp only [tOf, hthn]
    rw [htof]
    have hok := tOf_ok y.rng
    rw [htof] at hok
    clear hd he hth h61 htof hthn
    go_enter Try.func30, Try.ntmps30
    go_wp2_with fail
    refine (rpse4_any a b ha hb 6 (l.length : Int) (by decide) (by decide) (by omega) (by omega) A1 A2 c1 c2 _ ((y1.below hB1 (Nat.le_refl _)).more hB1.size) ((y2.below hB1 (Nat.le_refl _)).more hB1.size)).mono ?_
    rintro e w3 ⟨v3, rfl, o3, hb⟩
    rw [hPS] at o3
    obtain ⟨A5, k5, rfl, y5⟩ := o3.by_
    have hH3 := hH1.below hb hH1.lt
    have hB3 := hB1.trans (hb.mono hB1.size)
    have yl := (y.below hB3 (Nat.le_refl _)).more hB3.size
    have d12 := (y.below hB3 (Nat.le_refl _)).at (k := 12) (by omega)
    rw [hx12] at d12
    clear hb o3
    go_wp2_with fail
    refine (rfold_any _ _ [(A5, k5, PS), (some ⟨b0, off, none⟩, c, l)] _ (Parts.blk (t := 24) (fz := (0, 0)) (Has.newAt rfl) (Nat.le_refl _) rfl (all2 ((y5.alloc (Nat.le_refl _) _).more (by simp)) ((yl.alloc (Nat.le_refl _) _).more (by simp))) (by simp)) (by simp [flat]; omega)).mono ?_
    rintro e w4 ⟨rfl, hb⟩
    rw [show flat [(A5, k5, PS), (some ⟨b0, off, none⟩, c, l)] = PS ++ l from by simp [flat]]
    rw [hg.out]
    have hb : Below w3.heap.size w3 w4 := ((Below.refl _ _).alloc (Nat.le_refl _) _).trans (hb.mono (by simp))
    have hH4 := hH3.below hb hH3.lt
    have hB4 := hB3.trans (hb.mono hB3.size)
    clear hb d12
    go_wp2_with fail
    have r13 := getD_rng y.rng 13
    have hlo : 20 ≤ h := by omega
    have hhi : h ≤ l.length := by omega
    obtain ⟨A7, c7, hsl7, y7⟩ := y.part (P := Try.prog) 24 Try.underlying24 (by kernel_rfl) (k := 20) (m := h) hlo hhi
    obtain ⟨A8, c8, hsl8, y8⟩ := y.from_ (P := Try.prog) 24 Try.underlying24 (by kernel_rfl) (k := h) hhi
    have hS0 : SG w4 w4.drew := ⟨below_drew _ _⟩
    refine wp_region_held_drew (S := SG w4) (by kernel_rfl) hS0 (fun hS => ?_)
    generalize w4.drew = W0 at hS ⊢
    apply wpAnyH_rest (R := fun g9 W9 => SG w4 W9 ∧ Has W9 g9 (.cells #[.int .u16 (be2 l 0), .int .u16 (be2 l 2), .int .u32 (be4 l 4), .int .u32 (be4 l 8), .int .u8 (l.getD 13 0 % 64), .int .u16 (be2 l 14), .int .u16 (be2 l 18), .slice none 0 0, .slice none 0 0] 26 (0, 0)) ∧ w4.heap.size ≤ g9)
    case h1 =>
      intro hrest
      -- REGION 10
      refine tk (i := 0) (.slice (some ⟨b0, off, none⟩) l.length c) hS rfl (by kernel_rfl) (by kernel_rfl) (by kernel_rfl) (fun _ _ _ h => h) (by kernel_rfl) (by intro _ _; exact rfl) ?_
      simp only [Act.put, List.setIfInBounds_toArray, List.set_cons_zero, List.set_cons_succ]
      refine tk (i := 3) (.slice (some ⟨b0, off, none⟩) l.length c) hS rfl (by kernel_rfl) (by kernel_rfl) (by kernel_rfl) (fun _ _ _ h => h) (by kernel_rfl) (by intro _ _; exact rfl) ?_
      simp only [Act.put, List.setIfInBounds_toArray, List.set_cons_zero, List.set_cons_succ]
      refine tk (i := 6) (.slice (some ⟨b0, off, none⟩) l.length c) hS rfl (by kernel_rfl) (by kernel_rfl) (by kernel_rfl) (fun _ _ _ h => h) (by kernel_rfl) (by intro _ _; exact rfl) ?_
      simp only [Act.put, List.setIfInBounds_toArray, List.set_cons_zero, List.set_cons_succ]
      refine tk (i := 9) (.slice (some ⟨b0, off, none⟩) l.length c) hS rfl (by kernel_rfl) (by kernel_rfl) (by kernel_rfl) (fun _ _ _ h => h) (by kernel_rfl) (by intro _ _; exact rfl) ?_
      simp only [Act.put, List.setIfInBounds_toArray, List.set_cons_zero, List.set_cons_succ]
      refine tk (i := 12) (.slice (some ⟨b0, off, none⟩) l.length c) hS rfl (by kernel_rfl) (by kernel_rfl) (by kernel_rfl) (fun _ _ _ h => h) (by kernel_rfl) (by intro _ _; exact rfl) ?_
      simp only [Act.put, List.setIfInBounds_toArray, List.set_cons_zero, List.set_cons_succ]
      refine tk (i := 13) (.pointer (some ⟨b0, off + 13, none⟩)) hS rfl (by kernel_rfl) (by kernel_rfl) (by kernel_rfl) (fun _ _ _ h => h) (by kernel_rfl) (by intro _ _; exact ex_index (by exact rfl) Try.underlying24 (by kernel_rfl) (by exact rfl) (by exact rfl) (by omega)) ?_
      simp only [Act.put, List.setIfInBounds_toArray, List.set_cons_zero, List.set_cons_succ]
      refine tk (i := 14) (.int .u8 (l.getD 13 0)) hS rfl (by kernel_rfl) (by kernel_rfl) (by kernel_rfl) (fun _ _ _ h => h) (by kernel_rfl) (by intro _ h; exact ex_cell (by exact rfl) Try.underlying5 rfl (by exact rfl) ((y.below (hB4.trans (h.b.mono hB4.size)) (Nat.le_refl _)).at (k := 13) (by omega))) ?_
      simp only [Act.put, List.setIfInBounds_toArray, List.set_cons_zero, List.set_cons_succ]
      refine tk (i := 15) (.int .u8 (l.getD 13 0 % 64)) hS rfl (by kernel_rfl) (by kernel_rfl) (by kernel_rfl) (fun _ _ _ h => h) (by kernel_rfl) (by intro _ _; exact ex_bin (by exact rfl) (by exact rfl) (by exact rfl) (by decide) (rem64 _ _ r13 _)) ?_
      simp only [Act.put, List.setIfInBounds_toArray, List.set_cons_zero, List.set_cons_succ]
      refine tk (i := 16) (.slice (some ⟨b0, off, none⟩) l.length c) hS rfl (by kernel_rfl) (by kernel_rfl) (by kernel_rfl) (fun _ _ _ h => h) (by kernel_rfl) (by intro _ _; exact rfl) ?_
      simp only [Act.put, List.setIfInBounds_toArray, List.set_cons_zero, List.set_cons_succ]
      refine tk (i := 19) (.slice (some ⟨b0, off, none⟩) l.length c) hS rfl (by kernel_rfl) (by kernel_rfl) (by kernel_rfl) (fun _ _ _ h => h) (by kernel_rfl) (by intro _ _; exact rfl) ?_
      simp only [Act.put, List.setIfInBounds_toArray, List.set_cons_zero, List.set_cons_succ]
      refine tk_two (by kernel_rfl) (op_callx (i := 1) (fun v w' => v = .int .u64 (be2 l 0) ∧ Below W0.heap.size W0 w') rfl (by kernel_rfl) (by exact ex_call (by exact rfl) Try.func55 (by kernel_rfl) (by kernel_rfl) (by simp only [List.map_toArray, List.map_cons, List.map_nil] <;> rfl)) ((get2_any _ _ c l _ ((y.below (hB4.trans (hS.b.mono hB4.size)) (Nat.le_refl _)).more (hB4.trans (hS.b.mono hB4.size)).size) 0 (by omega)).mono fun e w' g => ⟨_, g.1, ⟨rfl, g.2⟩, hS.keep (g.2.mono hS.big)⟩) ?_) (op_alloc (i := 23) (#[.int .u16 0, .int .u16 0, .int .u32 0, .int .u32 0, .int .u8 0, .int .u16 0, .int .u16 0, .slice none 0 0, .slice none 0 0]) rfl (by kernel_rfl) rfl (by kernel_rfl) (fun _ hb => hS.keep (hb.mono hS.big)) ?_)
      · rintro v11 W11 ⟨rfl, hb⟩ hS11
        try replace hz := hz.below hb hz.lt
        clear hb
        simp only [Act.put, List.setIfInBounds_toArray, List.set_cons_zero, List.set_cons_succ]
        refine tk (i := 2) (.int .u16 (be2 l 0)) hS11 rfl (by kernel_rfl) (by kernel_rfl) (by kernel_rfl) (fun _ _ _ h => h) (by kernel_rfl) (by intro _ h; exact ex_conv (by exact rfl) (by exact rfl) (conv_u16 _ _ .u64 (be2 l 0) (by rw [Try.underlying87]; rfl) Try.underlying22 (be2_rng y.rng 0).1 (be2_rng y.rng 0).2 _)) ?_
        simp only [Act.put, List.setIfInBounds_toArray, List.set_cons_zero, List.set_cons_succ]
        refine tk_two (by kernel_rfl) (op_callx (i := 4) (fun v w' => v = .int .u64 (be2 l 2) ∧ Below W11.heap.size W11 w') rfl (by kernel_rfl) (by exact ex_call (by exact rfl) Try.func55 (by kernel_rfl) (by kernel_rfl) (by simp only [List.map_toArray, List.map_cons, List.map_nil] <;> rfl)) ((get2_any _ _ c l _ ((y.below (hB4.trans (hS11.b.mono hB4.size)) (Nat.le_refl _)).more (hB4.trans (hS11.b.mono hB4.size)).size) 2 (by omega)).mono fun e w' g => ⟨_, g.1, ⟨rfl, g.2⟩, hS11.keep (g.2.mono hS11.big)⟩) ?_) (op_alloc (i := 23) (#[.int .u16 0, .int .u16 0, .int .u32 0, .int .u32 0, .int .u8 0, .int .u16 0, .int .u16 0, .slice none 0 0, .slice none 0 0]) rfl (by kernel_rfl) rfl (by kernel_rfl) (fun _ hb => hS11.keep (hb.mono hS11.big)) ?_)
        · rintro v12 W12 ⟨rfl, hb⟩ hS12
          try replace hz := hz.below hb hz.lt
          clear hb
          simp only [Act.put, List.setIfInBounds_toArray, List.set_cons_zero, List.set_cons_succ]
          refine tk (i := 5) (.int .u16 (be2 l 2)) hS12 rfl (by kernel_rfl) (by kernel_rfl) (by kernel_rfl) (fun _ _ _ h => h) (by kernel_rfl) (by intro _ h; exact ex_conv (by exact rfl) (by exact rfl) (conv_u16 _ _ .u64 (be2 l 2) (by rw [Try.underlying87]; rfl) Try.underlying22 (be2_rng y.rng 2).1 (be2_rng y.rng 2).2 _)) ?_
          simp only [Act.put, List.setIfInBounds_toArray, List.set_cons_zero, List.set_cons_succ]
          refine tk_two (by kernel_rfl) (op_callx (i := 7) (fun v w' => v = .int .u64 (be4 l 4) ∧ Below W12.heap.size W12 w') rfl (by kernel_rfl) (by exact ex_call (by exact rfl) Try.func55 (by kernel_rfl) (by kernel_rfl) (by simp only [List.map_toArray, List.map_cons, List.map_nil] <;> rfl)) ((get4_any _ _ c l _ ((y.below (hB4.trans (hS12.b.mono hB4.size)) (Nat.le_refl _)).more (hB4.trans (hS12.b.mono hB4.size)).size) 4 (by omega)).mono fun e w' g => ⟨_, g.1, ⟨rfl, g.2⟩, hS12.keep (g.2.mono hS12.big)⟩) ?_) (op_alloc (i := 23) (#[.int .u16 0, .int .u16 0, .int .u32 0, .int .u32 0, .int .u8 0, .int .u16 0, .int .u16 0, .slice none 0 0, .slice none 0 0]) rfl (by kernel_rfl) rfl (by kernel_rfl) (fun _ hb => hS12.keep (hb.mono hS12.big)) ?_)
          · rintro v13 W13 ⟨rfl, hb⟩ hS13
            try replace hz := hz.below hb hz.lt
            clear hb
            simp only [Act.put, List.setIfInBounds_toArray, List.set_cons_zero, List.set_cons_succ]
            refine tk (i := 8) (.int .u32 (be4 l 4)) hS13 rfl (by kernel_rfl) (by kernel_rfl) (by kernel_rfl) (fun _ _ _ h => h) (by kernel_rfl) (by intro _ h; exact ex_conv (by exact rfl) (by exact rfl) (conv_u32 _ _ .u64 (be4 l 4) (by rw [Try.underlying87]; rfl) Try.underlying23 (be4_rng y.rng 4).1 (be4_rng y.rng 4).2 _)) ?_
            simp only [Act.put, List.setIfInBounds_toArray, List.set_cons_zero, List.set_cons_succ]
            refine tk_two (by kernel_rfl) (op_callx (i := 10) (fun v w' => v = .int .u64 (be4 l 8) ∧ Below W13.heap.size W13 w') rfl (by kernel_rfl) (by exact ex_call (by exact rfl) Try.func55 (by kernel_rfl) (by kernel_rfl) (by simp only [List.map_toArray, List.map_cons, List.map_nil] <;> rfl)) ((get4_any _ _ c l _ ((y.below (hB4.trans (hS13.b.mono hB4.size)) (Nat.le_refl _)).more (hB4.trans (hS13.b.mono hB4.size)).size) 8 (by omega)).mono fun e w' g => ⟨_, g.1, ⟨rfl, g.2⟩, hS13.keep (g.2.mono hS13.big)⟩) ?_) (op_alloc (i := 23) (#[.int .u16 0, .int .u16 0, .int .u32 0, .int .u32 0, .int .u8 0, .int .u16 0, .int .u16 0, .slice none 0 0, .slice none 0 0]) rfl (by kernel_rfl) rfl (by kernel_rfl) (fun _ hb => hS13.keep (hb.mono hS13.big)) ?_)
            · rintro v14 W14 ⟨rfl, hb⟩ hS14
              try replace hz := hz.below hb hz.lt
              clear hb
              simp only [Act.put, List.setIfInBounds_toArray, List.set_cons_zero, List.set_cons_succ]
              refine tk (i := 11) (.int .u32 (be4 l 8)) hS14 rfl (by kernel_rfl) (by kernel_rfl) (by kernel_rfl) (fun _ _ _ h => h) (by kernel_rfl) (by intro _ h; exact ex_conv (by exact rfl) (by exact rfl) (conv_u32 _ _ .u64 (be4 l 8) (by rw [Try.underlying87]; rfl) Try.underlying23 (be4_rng y.rng 8).1 (be4_rng y.rng 8).2 _)) ?_
              simp only [Act.put, List.setIfInBounds_toArray, List.set_cons_zero, List.set_cons_succ]
              refine tk_two (by kernel_rfl) (op_callx (i := 17) (fun v w' => v = .int .u64 (be2 l 14) ∧ Below W14.heap.size W14 w') rfl (by kernel_rfl) (by exact ex_call (by exact rfl) Try.func55 (by kernel_rfl) (by kernel_rfl) (by simp only [List.map_toArray, List.map_cons, List.map_nil] <;> rfl)) ((get2_any _ _ c l _ ((y.below (hB4.trans (hS14.b.mono hB4.size)) (Nat.le_refl _)).more (hB4.trans (hS14.b.mono hB4.size)).size) 14 (by omega)).mono fun e w' g => ⟨_, g.1, ⟨rfl, g.2⟩, hS14.keep (g.2.mono hS14.big)⟩) ?_) (op_alloc (i := 23) (#[.int .u16 0, .int .u16 0, .int .u32 0, .int .u32 0, .int .u8 0, .int .u16 0, .int .u16 0, .slice none 0 0, .slice none 0 0]) rfl (by kernel_rfl) rfl (by kernel_rfl) (fun _ hb => hS14.keep (hb.mono hS14.big)) ?_)
              · rintro v15 W15 ⟨rfl, hb⟩ hS15
                try replace hz := hz.below hb hz.lt
                clear hb
                simp only [Act.put, List.setIfInBounds_toArray, List.set_cons_zero, List.set_cons_succ]
                refine tk (i := 18) (.int .u16 (be2 l 14)) hS15 rfl (by kernel_rfl) (by kernel_rfl) (by kernel_rfl) (fun _ _ _ h => h) (by kernel_rfl) (by intro _ h; exact ex_conv (by exact rfl) (by exact rfl) (conv_u16 _ _ .u64 (be2 l 14) (by rw [Try.underlying87]; rfl) Try.underlying22 (be2_rng y.rng 14).1 (be2_rng y.rng 14).2 _)) ?_
                simp only [Act.put, List.setIfInBounds_toArray, List.set_cons_zero, List.set_cons_succ]
                refine tk_two (by kernel_rfl) (op_callx (i := 20) (fun v w' => v = .int .u64 (be2 l 18) ∧ Below W15.heap.size W15 w') rfl (by kernel_rfl) (by exact ex_call (by exact rfl) Try.func55 (by kernel_rfl) (by kernel_rfl) (by simp only [List.map_toArray, List.map_cons, List.map_nil] <;> rfl)) ((get2_any _ _ c l _ ((y.below (hB4.trans (hS15.b.mono hB4.size)) (Nat.le_refl _)).more (hB4.trans (hS15.b.mono hB4.size)).size) 18 (by omega)).mono fun e w' g => ⟨_, g.1, ⟨rfl, g.2⟩, hS15.keep (g.2.mono hS15.big)⟩) ?_) (op_alloc (i := 23) (#[.int .u16 0, .int .u16 0, .int .u32 0, .int .u32 0, .int .u8 0, .int .u16 0, .int .u16 0, .slice none 0 0, .slice none 0 0]) rfl (by kernel_rfl) rfl (by kernel_rfl) (fun _ hb => hS15.keep (hb.mono hS15.big)) ?_)
                · rintro v16 W16 ⟨rfl, hb⟩ hS16
                  try replace hz := hz.below hb hz.lt
                  clear hb
                  simp only [Act.put, List.setIfInBounds_toArray, List.set_cons_zero, List.set_cons_succ]
                  refine tk (i := 21) (.int .u16 (be2 l 18)) hS16 rfl (by kernel_rfl) (by kernel_rfl) (by kernel_rfl) (fun _ _ _ h => h) (by kernel_rfl) (by intro _ h; exact ex_conv (by exact rfl) (by exact rfl) (conv_u16 _ _ .u64 (be2 l 18) (by rw [Try.underlying87]; rfl) Try.underlying22 (be2_rng y.rng 18).1 (be2_rng y.rng 18).2 _)) ?_
                  simp only [Act.put, List.setIfInBounds_toArray, List.set_cons_zero, List.set_cons_succ]
                  refine tk (i := 22) (.agg #[.int .u16 (be2 l 0), .int .u16 (be2 l 2), .int .u32 (be4 l 4), .int .u32 (be4 l 8), .int .u8 (l.getD 13 0 % 64), .int .u16 (be2 l 14), .int .u16 (be2 l 18), .slice none 0 0, .slice none 0 0]) hS16 rfl (by kernel_rfl) (by kernel_rfl) (by kernel_rfl) (fun _ _ _ h => h) (by kernel_rfl) (by intro _ _; go_simp) ?_
                  simp only [Act.put, List.setIfInBounds_toArray, List.set_cons_zero, List.set_cons_succ]
                  refine tk_one (by kernel_rfl) (op_alloc (i := 23) (#[.int .u16 0, .int .u16 0, .int .u32 0, .int .u32 0, .int .u8 0, .int .u16 0, .int .u16 0, .slice none 0 0, .slice none 0 0]) rfl (by kernel_rfl) rfl (by kernel_rfl) (fun _ hb => hS16.keep (hb.mono hS16.big)) ?_)
                  intro g9 W2 hz hge hsz hba hS2
                  have hgb : w4.heap.size ≤ g9 := Nat.le_trans hS16.big hge
                  clear hge hsz hba
                  simp only [Act.put, List.setIfInBounds_toArray, List.set_cons_zero, List.set_cons_succ]
                  refine tk_store (i := 24) (by kernel_rfl) rfl (by kernel_rfl) rfl rfl rfl hz tcp_info rfl (by simp [Value.oneCell']) (hS2.keep (below_setRow'.mono hgb)) ?_
                  have hS20 := hS2.keep ((below_setRow' (w := W2) (g := g9) (cs := #[.int .u16 (be2 l 0), .int .u16 (be2 l 2), .int .u32 (be4 l 4), .int .u32 (be4 l 8), .int .u8 (l.getD 13 0 % 64), .int .u16 (be2 l 14), .int .u16 (be2 l 18), .slice none 0 0, .slice none 0 0])).mono hgb)
                  have hz9 := hz.setRow_same (cs' := #[.int .u16 (be2 l 0), .int .u16 (be2 l 2), .int .u32 (be4 l 4), .int .u32 (be4 l 8), .int .u8 (l.getD 13 0 % 64), .int .u16 (be2 l 14), .int .u16 (be2 l 18), .slice none 0 0, .slice none 0 0])
                  generalize W2.setRow g9 #[.int .u16 (be2 l 0), .int .u16 (be2 l 2), .int .u32 (be4 l 4), .int .u32 (be4 l 8), .int .u8 (l.getD 13 0 % 64), .int .u16 (be2 l 14), .int .u16 (be2 l 18), .slice none 0 0, .slice none 0 0] = W9 at hS20 hz9 ⊢
                  simp only [Act.put, List.setIfInBounds_toArray, List.set_cons_zero, List.set_cons_succ]
                  refine wpAnyH_done (by kernel_rfl) ?_ _
                  exact hrest _ _ ⟨hS20, hz9, hgb⟩
                · intro g9 W2 hz hge hsz hba hS2
                  have hgb : w4.heap.size ≤ g9 := Nat.le_trans hS15.big hge
                  clear hge hsz hba
                  simp only [Act.put, List.setIfInBounds_toArray, List.set_cons_zero, List.set_cons_succ]
                  refine tk_one (by kernel_rfl) (op_callx (i := 20) (fun v w' => v = .int .u64 (be2 l 18) ∧ Below W2.heap.size W2 w') rfl (by kernel_rfl) (by exact ex_call (by exact rfl) Try.func55 (by kernel_rfl) (by kernel_rfl) (by simp only [List.map_toArray, List.map_cons, List.map_nil] <;> rfl)) ((get2_any _ _ c l _ ((y.below (hB4.trans (hS2.b.mono hB4.size)) (Nat.le_refl _)).more (hB4.trans (hS2.b.mono hB4.size)).size) 18 (by omega)).mono fun e w' g => ⟨_, g.1, ⟨rfl, g.2⟩, hS2.keep (g.2.mono hS2.big)⟩) ?_)
                  rintro v16 W16 ⟨rfl, hb⟩ hS16
                  try replace hz := hz.below hb hz.lt
                  clear hb
                  simp only [Act.put, List.setIfInBounds_toArray, List.set_cons_zero, List.set_cons_succ]
                  refine tk (i := 21) (.int .u16 (be2 l 18)) hS16 rfl (by kernel_rfl) (by kernel_rfl) (by kernel_rfl) (fun _ _ _ h => h) (by kernel_rfl) (by intro _ h; exact ex_conv (by exact rfl) (by exact rfl) (conv_u16 _ _ .u64 (be2 l 18) (by rw [Try.underlying87]; rfl) Try.underlying22 (be2_rng y.rng 18).1 (be2_rng y.rng 18).2 _)) ?_
                  simp only [Act.put, List.setIfInBounds_toArray, List.set_cons_zero, List.set_cons_succ]
                  refine tk (i := 22) (.agg #[.int .u16 (be2 l 0), .int .u16 (be2 l 2), .int .u32 (be4 l 4), .int .u32 (be4 l 8), .int .u8 (l.getD 13 0 % 64), .int .u16 (be2 l 14), .int .u16 (be2 l 18), .slice none 0 0, .slice none 0 0]) hS16 rfl (by kernel_rfl) (by kernel_rfl) (by kernel_rfl) (fun _ _ _ h => h) (by kernel_rfl) (by intro _ _; go_simp) ?_
                  simp only [Act.put, List.setIfInBounds_toArray, List.set_cons_zero, List.set_cons_succ]
                  refine tk_store (i := 24) (by kernel_rfl) rfl (by kernel_rfl) rfl rfl rfl hz tcp_info rfl (by simp [Value.oneCell']) (hS16.keep (below_setRow'.mono hgb)) ?_
                  have hS20 := hS16.keep ((below_setRow' (w := W16) (g := g9) (cs := #[.int .u16 (be2 l 0), .int .u16 (be2 l 2), .int .u32 (be4 l 4), .int .u32 (be4 l 8), .int .u8 (l.getD 13 0 % 64), .int .u16 (be2 l 14), .int .u16 (be2 l 18), .slice none 0 0, .slice none 0 0])).mono hgb)
                  have hz9 := hz.setRow_same (cs' := #[.int .u16 (be2 l 0), .int .u16 (be2 l 2), .int .u32 (be4 l 4), .int .u32 (be4 l 8), .int .u8 (l.getD 13 0 % 64), .int .u16 (be2 l 14), .int .u16 (be2 l 18), .slice none 0 0, .slice none 0 0])
                  generalize W16.setRow g9 #[.int .u16 (be2 l 0), .int .u16 (be2 l 2), .int .u32 (be4 l 4), .int .u32 (be4 l 8), .int .u8 (l.getD 13 0 % 64), .int .u16 (be2 l 14), .int .u16 (be2 l 18), .slice none 0 0, .slice none 0 0] = W9 at hS20 hz9 ⊢
                  simp only [Act.put, List.setIfInBounds_toArray, List.set_cons_zero, List.set_cons_succ]
                  refine wpAnyH_done (by kernel_rfl) ?_ _
                  exact hrest _ _ ⟨hS20, hz9, hgb⟩
              · intro g9 W2 hz hge hsz hba hS2
                have hgb : w4.heap.size ≤ g9 := Nat.le_trans hS14.big hge
                clear hge hsz hba
                simp only [Act.put, List.setIfInBounds_toArray, List.set_cons_zero, List.set_cons_succ]
                refine tk_one (by kernel_rfl) (op_callx (i := 17) (fun v w' => v = .int .u64 (be2 l 14) ∧ Below W2.heap.size W2 w') rfl (by kernel_rfl) (by exact ex_call (by exact rfl) Try.func55 (by kernel_rfl) (by kernel_rfl) (by simp only [List.map_toArray, List.map_cons, List.map_nil] <;> rfl)) ((get2_any _ _ c l _ ((y.below (hB4.trans (hS2.b.mono hB4.size)) (Nat.le_refl _)).more (hB4.trans (hS2.b.mono hB4.size)).size) 14 (by omega)).mono fun e w' g => ⟨_, g.1, ⟨rfl, g.2⟩, hS2.keep (g.2.mono hS2.big)⟩) ?_)
                rintro v15 W15 ⟨rfl, hb⟩ hS15
                try replace hz := hz.below hb hz.lt
                clear hb
                simp only [Act.put, List.setIfInBounds_toArray, List.set_cons_zero, List.set_cons_succ]
                refine tk (i := 18) (.int .u16 (be2 l 14)) hS15 rfl (by kernel_rfl) (by kernel_rfl) (by kernel_rfl) (fun _ _ _ h => h) (by kernel_rfl) (by intro _ h; exact ex_conv (by exact rfl) (by exact rfl) (conv_u16 _ _ .u64 (be2 l 14) (by rw [Try.underlying87]; rfl) Try.underlying22 (be2_rng y.rng 14).1 (be2_rng y.rng 14).2 _)) ?_
                simp only [Act.put, List.setIfInBounds_toArray, List.set_cons_zero, List.set_cons_succ]
                refine tk_one (by kernel_rfl) (op_callx (i := 20) (fun v w' => v = .int .u64 (be2 l 18) ∧ Below W15.heap.size W15 w') rfl (by kernel_rfl) (by exact ex_call (by exact rfl) Try.func55 (by kernel_rfl) (by kernel_rfl) (by simp only [List.map_toArray, List.map_cons, List.map_nil] <;> rfl)) ((get2_any _ _ c l _ ((y.below (hB4.trans (hS15.b.mono hB4.size)) (Nat.le_refl _)).more (hB4.trans (hS15.b.mono hB4.size)).size) 18 (by omega)).mono fun e w' g => ⟨_, g.1, ⟨rfl, g.2⟩, hS15.keep (g.2.mono hS15.big)⟩) ?_)
                rintro v16 W16 ⟨rfl, hb⟩ hS16
                try replace hz := hz.below hb hz.lt
                clear hb
                simp only [Act.put, List.setIfInBounds_toArray, List.set_cons_zero, List.set_cons_succ]
                refine tk (i := 21) (.int .u16 (be2 l 18)) hS16 rfl (by kernel_rfl) (by kernel_rfl) (by kernel_rfl) (fun _ _ _ h => h) (by kernel_rfl) (by intro _ h; exact ex_conv (by exact rfl) (by exact rfl) (conv_u16 _ _ .u64 (be2 l 18) (by rw [Try.underlying87]; rfl) Try.underlying22 (be2_rng y.rng 18).1 (be2_rng y.rng 18).2 _)) ?_
                simp only [Act.put, List.setIfInBounds_toArray, List.set_cons_zero, List.set_cons_succ]
                refine tk (i := 22) (.agg #[.int .u16 (be2 l 0), .int .u16 (be2 l 2), .int .u32 (be4 l 4), .int .u32 (be4 l 8), .int .u8 (l.getD 13 0 % 64), .int .u16 (be2 l 14), .int .u16 (be2 l 18), .slice none 0 0, .slice none 0 0]) hS16 rfl (by kernel_rfl) (by kernel_rfl) (by kernel_rfl) (fun _ _ _ h => h) (by kernel_rfl) (by intro _ _; go_simp) ?_
                simp only [Act.put, List.setIfInBounds_toArray, List.set_cons_zero, List.set_cons_succ]
                refine tk_store (i := 24) (by kernel_rfl) rfl (by kernel_rfl) rfl rfl rfl hz tcp_info rfl (by simp [Value.oneCell']) (hS16.keep (below_setRow'.mono hgb)) ?_
                have hS20 := hS16.keep ((below_setRow' (w := W16) (g := g9) (cs := #[.int .u16 (be2 l 0), .int .u16 (be2 l 2), .int .u32 (be4 l 4), .int .u32 (be4 l 8), .int .u8 (l.getD 13 0 % 64), .int .u16 (be2 l 14), .int .u16 (be2 l 18), .slice none 0 0, .slice none 0 0])).mono hgb)
                have hz9 := hz.setRow_same (cs' := #[.int .u16 (be2 l 0), .int .u16 (be2 l 2), .int .u32 (be4 l 4), .int .u32 (be4 l 8), .int .u8 (l.getD 13 0 % 64), .int .u16 (be2 l 14), .int .u16 (be2 l 18), .slice none 0 0, .slice none 0 0])
                generalize W16.setRow g9 #[.int .u16 (be2 l 0), .int .u16 (be2 l 2), .int .u32 (be4 l 4), .int .u32 (be4 l 8), .int .u8 (l.getD 13 0 % 64), .int .u16 (be2 l 14), .int .u16 (be2 l 18), .slice none 0 0, .slice none 0 0] = W9 at hS20 hz9 ⊢
                simp only [Act.put, List.setIfInBounds_toArray, List.set_cons_zero, List.set_cons_succ]
                refine wpAnyH_done (by kernel_rfl) ?_ _
                exact hrest _ _ ⟨hS20, hz9, hgb⟩
            · intro g9 W2 hz hge hsz hba hS2
              have hgb : w4.heap.size ≤ g9 := Nat.le_trans hS13.big hge
              clear hge hsz hba
              simp only [Act.put, List.setIfInBounds_toArray, List.set_cons_zero, List.set_cons_succ]
              refine tk_one (by kernel_rfl) (op_callx (i := 10) (fun v w' => v = .int .u64 (be4 l 8) ∧ Below W2.heap.size W2 w') rfl (by kernel_rfl) (by exact ex_call (by exact rfl) Try.func55 (by kernel_rfl) (by kernel_rfl) (by simp only [List.map_toArray, List.map_cons, List.map_nil] <;> rfl)) ((get4_any _ _ c l _ ((y.below (hB4.trans (hS2.b.mono hB4.size)) (Nat.le_refl _)).more (hB4.trans (hS2.b.mono hB4.size)).size) 8 (by omega)).mono fun e w' g => ⟨_, g.1, ⟨rfl, g.2⟩, hS2.keep (g.2.mono hS2.big)⟩) ?_)
              rintro v14 W14 ⟨rfl, hb⟩ hS14
              try replace hz := hz.below hb hz.lt
              clear hb
              simp only [Act.put, List.setIfInBounds_toArray, List.set_cons_zero, List.set_cons_succ]
              refine tk (i := 11) (.int .u32 (be4 l 8)) hS14 rfl (by kernel_rfl) (by kernel_rfl) (by kernel_rfl) (fun _ _ _ h => h) (by kernel_rfl) (by intro _ h; exact ex_conv (by exact rfl) (by exact rfl) (conv_u32 _ _ .u64 (be4 l 8) (by rw [Try.underlying87]; rfl) Try.underlying23 (be4_rng y.rng 8).1 (be4_rng y.rng 8).2 _)) ?_
              simp only [Act.put, List.setIfInBounds_toArray, List.set_cons_zero, List.set_cons_succ]
              refine tk_one (by kernel_rfl) (op_callx (i := 17) (fun v w' => v = .int .u64 (be2 l 14) ∧ Below W14.heap.size W14 w') rfl (by kernel_rfl) (by exact ex_call (by exact rfl) Try.func55 (by kernel_rfl) (by kernel_rfl) (by simp only [List.map_toArray, List.map_cons, List.map_nil] <;> rfl)) ((get2_any _ _ c l _ ((y.below (hB4.trans (hS14.b.mono hB4.size)) (Nat.le_refl _)).more (hB4.trans (hS14.b.mono hB4.size)).size) 14 (by omega)).mono fun e w' g => ⟨_, g.1, ⟨rfl, g.2⟩, hS14.keep (g.2.mono hS14.big)⟩) ?_)
              rintro v15 W15 ⟨rfl, hb⟩ hS15
              try replace hz := hz.below hb hz.lt
              clear hb
              simp only [Act.put, List.setIfInBounds_toArray, List.set_cons_zero, List.set_cons_succ]
              refine tk (i := 18) (.int .u16 (be2 l 14)) hS15 rfl (by kernel_rfl) (by kernel_rfl) (by kernel_rfl) (fun _ _ _ h => h) (by kernel_rfl) (by intro _ h; exact ex_conv (by exact rfl) (by exact rfl) (conv_u16 _ _ .u64 (be2 l 14) (by rw [Try.underlying87]; rfl) Try.underlying22 (be2_rng y.rng 14).1 (be2_rng y.rng 14).2 _)) ?_
              simp only [Act.put, List.setIfInBounds_toArray, List.set_cons_zero, List.set_cons_succ]
              refine tk_one (by kernel_rfl) (op_callx (i := 20) (fun v w' => v = .int .u64 (be2 l 18) ∧ Below W15.heap.size W15 w') rfl (by kernel_rfl) (by exact ex_call (by exact rfl) Try.func55 (by kernel_rfl) (by kernel_rfl) (by simp only [List.map_toArray, List.map_cons, List.map_nil] <;> rfl)) ((get2_any _ _ c l _ ((y.below (hB4.trans (hS15.b.mono hB4.size)) (Nat.le_refl _)).more (hB4.trans (hS15.b.mono hB4.size)).size) 18 (by omega)).mono fun e w' g => ⟨_, g.1, ⟨rfl, g.2⟩, hS15.keep (g.2.mono hS15.big)⟩) ?_)
              rintro v16 W16 ⟨rfl, hb⟩ hS16
              try replace hz := hz.below hb hz.lt
              clear hb
              simp only [Act.put, List.setIfInBounds_toArray, List.set_cons_zero, List.set_cons_succ]
              refine tk (i := 21) (.int .u16 (be2 l 18)) hS16 rfl (by kernel_rfl) (by kernel_rfl) (by kernel_rfl) (fun _ _ _ h => h) (by kernel_rfl) (by intro _ h; exact ex_conv (by exact rfl) (by exact rfl) (conv_u16 _ _ .u64 (be2 l 18) (by rw [Try.underlying87]; rfl) Try.underlying22 (be2_rng y.rng 18).1 (be2_rng y.rng 18).2 _)) ?_
              simp only [Act.put, List.setIfInBounds_toArray, List.set_cons_zero, List.set_cons_succ]
              refine tk (i := 22) (.agg #[.int .u16 (be2 l 0), .int .u16 (be2 l 2), .int .u32 (be4 l 4), .int .u32 (be4 l 8), .int .u8 (l.getD 13 0 % 64), .int .u16 (be2 l 14), .int .u16 (be2 l 18), .slice none 0 0, .slice none 0 0]) hS16 rfl (by kernel_rfl) (by kernel_rfl) (by kernel_rfl) (fun _ _ _ h => h) (by kernel_rfl) (by intro _ _; go_simp) ?_
              simp only [Act.put, List.setIfInBounds_toArray, List.set_cons_zero, List.set_cons_succ]
              refine tk_store (i := 24) (by kernel_rfl) rfl (by kernel_rfl) rfl rfl rfl hz tcp_info rfl (by simp [Value.oneCell']) (hS16.keep (below_setRow'.mono hgb)) ?_
              have hS20 := hS16.keep ((below_setRow' (w := W16) (g := g9) (cs := #[.int .u16 (be2 l 0), .int .u16 (be2 l 2), .int .u32 (be4 l 4), .int .u32 (be4 l 8), .int .u8 (l.getD 13 0 % 64), .int .u16 (be2 l 14), .int .u16 (be2 l 18), .slice none 0 0, .slice none 0 0])).mono hgb)
              have hz9 := hz.setRow_same (cs' := #[.int .u16 (be2 l 0), .int .u16 (be2 l 2), .int .u32 (be4 l 4), .int .u32 (be4 l 8), .int .u8 (l.getD 13 0 % 64), .int .u16 (be2 l 14), .int .u16 (be2 l 18), .slice none 0 0, .slice none 0 0])
              generalize W16.setRow g9 #[.int .u16 (be2 l 0), .int .u16 (be2 l 2), .int .u32 (be4 l 4), .int .u32 (be4 l 8), .int .u8 (l.getD 13 0 % 64), .int .u16 (be2 l 14), .int .u16 (be2 l 18), .slice none 0 0, .slice none 0 0] = W9 at hS20 hz9 ⊢
              simp only [Act.put, List.setIfInBounds_toArray, List.set_cons_zero, List.set_cons_succ]
              refine wpAnyH_done (by kernel_rfl) ?_ _
              exact hrest _ _ ⟨hS20, hz9, hgb⟩
          · intro g9 W2 hz hge hsz hba hS2
            have hgb : w4.heap.size ≤ g9 := Nat.le_trans hS12.big hge
            clear hge hsz hba
            simp only [Act.put, List.setIfInBounds_toArray, List.set_cons_zero, List.set_cons_succ]
            refine tk_one (by kernel_rfl) (op_callx (i := 7) (fun v w' => v = .int .u64 (be4 l 4) ∧ Below W2.heap.size W2 w') rfl (by kernel_rfl) (by exact ex_call (by exact rfl) Try.func55 (by kernel_rfl) (by kernel_rfl) (by simp only [List.map_toArray, List.map_cons, List.map_nil] <;> rfl)) ((get4_any _ _ c l _ ((y.below (hB4.trans (hS2.b.mono hB4.size)) (Nat.le_refl _)).more (hB4.trans (hS2.b.mono hB4.size)).size) 4 (by omega)).mono fun e w' g => ⟨_, g.1, ⟨rfl, g.2⟩, hS2.keep (g.2.mono hS2.big)⟩) ?_)
            rintro v13 W13 ⟨rfl, hb⟩ hS13
            try replace hz := hz.below hb hz.lt
            clear hb
            simp only [Act.put, List.setIfInBounds_toArray, List.set_cons_zero, List.set_cons_succ]
            refine tk (i := 8) (.int .u32 (be4 l 4)) hS13 rfl (by kernel_rfl) (by kernel_rfl) (by kernel_rfl) (fun _ _ _ h => h) (by kernel_rfl) (by intro _ h; exact ex_conv (by exact rfl) (by exact rfl) (conv_u32 _ _ .u64 (be4 l 4) (by rw [Try.underlying87]; rfl) Try.underlying23 (be4_rng y.rng 4).1 (be4_rng y.rng 4).2 _)) ?_
            simp only [Act.put, List.setIfInBounds_toArray, List.set_cons_zero, List.set_cons_succ]
            refine tk_one (by kernel_rfl) (op_callx (i := 10) (fun v w' => v = .int .u64 (be4 l 8) ∧ Below W13.heap.size W13 w') rfl (by kernel_rfl) (by exact ex_call (by exact rfl) Try.func55 (by kernel_rfl) (by kernel_rfl) (by simp only [List.map_toArray, List.map_cons, List.map_nil] <;> rfl)) ((get4_any _ _ c l _ ((y.below (hB4.trans (hS13.b.mono hB4.size)) (Nat.le_refl _)).more (hB4.trans (hS13.b.mono hB4.size)).size) 8 (by omega)).mono fun e w' g => ⟨_, g.1, ⟨rfl, g.2⟩, hS13.keep (g.2.mono hS13.big)⟩) ?_)
            rintro v14 W14 ⟨rfl, hb⟩ hS14
            try replace hz := hz.below hb hz.lt
            clear hb
            simp only [Act.put, List.setIfInBounds_toArray, List.set_cons_zero, List.set_cons_succ]
            refine tk (i := 11) (.int .u32 (be4 l 8)) hS14 rfl (by kernel_rfl) (by kernel_rfl) (by kernel_rfl) (fun _ _ _ h => h) (by kernel_rfl) (by intro _ h; exact ex_conv (by exact rfl) (by exact rfl) (conv_u32 _ _ .u64 (be4 l 8) (by rw [Try.underlying87]; rfl) Try.underlying23 (be4_rng y.rng 8).1 (be4_rng y.rng 8).2 _)) ?_
            simp only [Act.put, List.setIfInBounds_toArray, List.set_cons_zero, List.set_cons_succ]
            refine tk_one (by kernel_rfl) (op_callx (i := 17) (fun v w' => v = .int .u64 (be2 l 14) ∧ Below W14.heap.size W14 w') rfl (by kernel_rfl) (by exact ex_call (by exact rfl) Try.func55 (by kernel_rfl) (by kernel_rfl) (by simp only [List.map_toArray, List.map_cons, List.map_nil] <;> rfl)) ((get2_any _ _ c l _ ((y.below (hB4.trans (hS14.b.mono hB4.size)) (Nat.le_refl _)).more (hB4.trans (hS14.b.mono hB4.size)).size) 14 (by omega)).mono fun e w' g => ⟨_, g.1, ⟨rfl, g.2⟩, hS14.keep (g.2.mono hS14.big)⟩) ?_)
            rintro v15 W15 ⟨rfl, hb⟩ hS15
            try replace hz := hz.below hb hz.lt
            clear hb
            simp only [Act.put, List.setIfInBounds_toArray, List.set_cons_zero, List.set_cons_succ]
            refine tk (i := 18) (.int .u16 (be2 l 14)) hS15 rfl (by kernel_rfl) (by kernel_rfl) (by kernel_rfl) (fun _ _ _ h => h) (by kernel_rfl) (by intro _ h; exact ex_conv (by exact rfl) (by exact rfl) (conv_u16 _ _ .u64 (be2 l 14) (by rw [Try.underlying87]; rfl) Try.underlying22 (be2_rng y.rng 14).1 (be2_rng y.rng 14).2 _)) ?_
            simp only [Act.put, List.setIfInBounds_toArray, List.set_cons_zero, List.set_cons_succ]
            refine tk_one (by kernel_rfl) (op_callx (i := 20) (fun v w' => v = .int .u64 (be2 l 18) ∧ Below W15.heap.size W15 w') rfl (by kernel_rfl) (by exact ex_call (by exact rfl) Try.func55 (by kernel_rfl) (by kernel_rfl) (by simp only [List.map_toArray, List.map_cons, List.map_nil] <;> rfl)) ((get2_any _ _ c l _ ((y.below (hB4.trans (hS15.b.mono hB4.size)) (Nat.le_refl _)).more (hB4.trans (hS15.b.mono hB4.size)).size) 18 (by omega)).mono fun e w' g => ⟨_, g.1, ⟨rfl, g.2⟩, hS15.keep (g.2.mono hS15.big)⟩) ?_)
            rintro v16 W16 ⟨rfl, hb⟩ hS16
            try replace hz := hz.below hb hz.lt
            clear hb
            simp only [Act.put, List.setIfInBounds_toArray, List.set_cons_zero, List.set_cons_succ]
            refine tk (i := 21) (.int .u16 (be2 l 18)) hS16 rfl (by kernel_rfl) (by kernel_rfl) (by kernel_rfl) (fun _ _ _ h => h) (by kernel_rfl) (by intro _ h; exact ex_conv (by exact rfl) (by exact rfl) (conv_u16 _ _ .u64 (be2 l 18) (by rw [Try.underlying87]; rfl) Try.underlying22 (be2_rng y.rng 18).1 (be2_rng y.rng 18).2 _)) ?_
            simp only [Act.put, List.setIfInBounds_toArray, List.set_cons_zero, List.set_cons_succ]
            refine tk (i := 22) (.agg #[.int .u16 (be2 l 0), .int .u16 (be2 l 2), .int .u32 (be4 l 4), .int .u32 (be4 l 8), .int .u8 (l.getD 13 0 % 64), .int .u16 (be2 l 14), .int .u16 (be2 l 18), .slice none 0 0, .slice none 0 0]) hS16 rfl (by kernel_rfl) (by kernel_rfl) (by kernel_rfl) (fun _ _ _ h => h) (by kernel_rfl) (by intro _ _; go_simp) ?_
            simp only [Act.put, List.setIfInBounds_toArray, List.set_cons_zero, List.set_cons_succ]
            refine tk_store (i := 24) (by kernel_rfl) rfl (by kernel_rfl) rfl rfl rfl hz tcp_info rfl (by simp [Value.oneCell']) (hS16.keep (below_setRow'.mono hgb)) ?_
            have hS20 := hS16.keep ((below_setRow' (w := W16) (g := g9) (cs := #[.int .u16 (be2 l 0), .int .u16 (be2 l 2), .int .u32 (be4 l 4), .int .u32 (be4 l 8), .int .u8 (l.getD 13 0 % 64), .int .u16 (be2 l 14), .int .u16 (be2 l 18), .slice none 0 0, .slice none 0 0])).mono hgb)
            have hz9 := hz.setRow_same (cs' := #[.int .u16 (be2 l 0), .int .u16 (be2 l 2), .int .u32 (be4 l 4), .int .u32 (be4 l 8), .int .u8 (l.getD 13 0 % 64), .int .u16 (be2 l 14), .int .u16 (be2 l 18), .slice none 0 0, .slice none 0 0])
            generalize W16.setRow g9 #[.int .u16 (be2 l 0), .int .u16 (be2 l 2), .int .u32 (be4 l 4), .int .u32 (be4 l 8), .int .u8 (l.getD 13 0 % 64), .int .u16 (be2 l 14), .int .u16 (be2 l 18), .slice none 0 0, .slice none 0 0] = W9 at hS20 hz9 ⊢
            simp only [Act.put, List.setIfInBounds_toArray, List.set_cons_zero, List.set_cons_succ]
            refine wpAnyH_done (by kernel_rfl) ?_ _
            exact hrest _ _ ⟨hS20, hz9, hgb⟩
        · intro g9 W2 hz hge hsz hba hS2
          have hgb : w4.heap.size ≤ g9 := Nat.le_trans hS11.big hge
          clear hge hsz hba
          simp only [Act.put, List.setIfInBounds_toArray, List.set_cons_zero, List.set_cons_succ]
          refine tk_one (by kernel_rfl) (op_callx (i := 4) (fun v w' => v = .int .u64 (be2 l 2) ∧ Below W2.heap.size W2 w') rfl (by kernel_rfl) (by exact ex_call (by exact rfl) Try.func55 (by kernel_rfl) (by kernel_rfl) (by simp only [List.map_toArray, List.map_cons, List.map_nil] <;> rfl)) ((get2_any _ _ c l _ ((y.below (hB4.trans (hS2.b.mono hB4.size)) (Nat.le_refl _)).more (hB4.trans (hS2.b.mono hB4.size)).size) 2 (by omega)).mono fun e w' g => ⟨_, g.1, ⟨rfl, g.2⟩, hS2.keep (g.2.mono hS2.big)⟩) ?_)
          rintro v12 W12 ⟨rfl, hb⟩ hS12
          try replace hz := hz.below hb hz.lt
          clear hb
          simp only [Act.put, List.setIfInBounds_toArray, List.set_cons_zero, List.set_cons_succ]
          refine tk (i := 5) (.int .u16 (be2 l 2)) hS12 rfl (by kernel_rfl) (by kernel_rfl) (by kernel_rfl) (fun _ _ _ h => h) (by kernel_rfl) (by intro _ h; exact ex_conv (by exact rfl) (by exact rfl) (conv_u16 _ _ .u64 (be2 l 2) (by rw [Try.underlying87]; rfl) Try.underlying22 (be2_rng y.rng 2).1 (be2_rng y.rng 2).2 _)) ?_
          simp only [Act.put, List.setIfInBounds_toArray, List.set_cons_zero, List.set_cons_succ]
          refine tk_one (by kernel_rfl) (op_callx (i := 7) (fun v w' => v = .int .u64 (be4 l 4) ∧ Below W12.heap.size W12 w') rfl (by kernel_rfl) (by exact ex_call (by exact rfl) Try.func55 (by kernel_rfl) (by kernel_rfl) (by simp only [List.map_toArray, List.map_cons, List.map_nil] <;> rfl)) ((get4_any _ _ c l _ ((y.below (hB4.trans (hS12.b.mono hB4.size)) (Nat.le_refl _)).more (hB4.trans (hS12.b.mono hB4.size)).size) 4 (by omega)).mono fun e w' g => ⟨_, g.1, ⟨rfl, g.2⟩, hS12.keep (g.2.mono hS12.big)⟩) ?_)
          rintro v13 W13 ⟨rfl, hb⟩ hS13
          try replace hz := hz.below hb hz.lt
          clear hb
          simp only [Act.put, List.setIfInBounds_toArray, List.set_cons_zero, List.set_cons_succ]
          refine tk (i := 8) (.int .u32 (be4 l 4)) hS13 rfl (by kernel_rfl) (by kernel_rfl) (by kernel_rfl) (fun _ _ _ h => h) (by kernel_rfl) (by intro _ h; exact ex_conv (by exact rfl) (by exact rfl) (conv_u32 _ _ .u64 (be4 l 4) (by rw [Try.underlying87]; rfl) Try.underlying23 (be4_rng y.rng 4).1 (be4_rng y.rng 4).2 _)) ?_
          simp only [Act.put, List.setIfInBounds_toArray, List.set_cons_zero, List.set_cons_succ]
          refine tk_one (by kernel_rfl) (op_callx (i := 10) (fun v w' => v = .int .u64 (be4 l 8) ∧ Below W13.heap.size W13 w') rfl (by kernel_rfl) (by exact ex_call (by exact rfl) Try.func55 (by kernel_rfl) (by kernel_rfl) (by simp only [List.map_toArray, List.map_cons, List.map_nil] <;> rfl)) ((get4_any _ _ c l _ ((y.below (hB4.trans (hS13.b.mono hB4.size)) (Nat.le_refl _)).more (hB4.trans (hS13.b.mono hB4.size)).size) 8 (by omega)).mono fun e w' g => ⟨_, g.1, ⟨rfl, g.2⟩, hS13.keep (g.2.mono hS13.big)⟩) ?_)
          rintro v14 W14 ⟨rfl, hb⟩ hS14
          try replace hz := hz.below hb hz.lt
          clear hb
          simp only [Act.put, List.setIfInBounds_toArray, List.set_cons_zero, List.set_cons_succ]
          refine tk (i := 11) (.int .u32 (be4 l 8)) hS14 rfl (by kernel_rfl) (by kernel_rfl) (by kernel_rfl) (fun _ _ _ h => h) (by kernel_rfl) (by intro _ h; exact ex_conv (by exact rfl) (by exact rfl) (conv_u32 _ _ .u64 (be4 l 8) (by rw [Try.underlying87]; rfl) Try.underlying23 (be4_rng y.rng 8).1 (be4_rng y.rng 8).2 _)) ?_
          simp only [Act.put, List.setIfInBounds_toArray, List.set_cons_zero, List.set_cons_succ]
          refine tk_one (by kernel_rfl) (op_callx (i := 17) (fun v w' => v = .int .u64 (be2 l 14) ∧ Below W14.heap.size W14 w') rfl (by kernel_rfl) (by exact ex_call (by exact rfl) Try.func55 (by kernel_rfl) (by kernel_rfl) (by simp only [List.map_toArray, List.map_cons, List.map_nil] <;> rfl)) ((get2_any _ _ c l _ ((y.below (hB4.trans (hS14.b.mono hB4.size)) (Nat.le_refl _)).more (hB4.trans (hS14.b.mono hB4.size)).size) 14 (by omega)).mono fun e w' g => ⟨_, g.1, ⟨rfl, g.2⟩, hS14.keep (g.2.mono hS14.big)⟩) ?_)
          rintro v15 W15 ⟨rfl, hb⟩ hS15
          try replace hz := hz.below hb hz.lt
          clear hb
          simp only [Act.put, List.setIfInBounds_toArray, List.set_cons_zero, List.set_cons_succ]
          refine tk (i := 18) (.int .u16 (be2 l 14)) hS15 rfl (by kernel_rfl) (by kernel_rfl) (by kernel_rfl) (fun _ _ _ h => h) (by kernel_rfl) (by intro _ h; exact ex_conv (by exact rfl) (by exact rfl) (conv_u16 _ _ .u64 (be2 l 14) (by rw [Try.underlying87]; rfl) Try.underlying22 (be2_rng y.rng 14).1 (be2_rng y.rng 14).2 _)) ?_
          simp only [Act.put, List.setIfInBounds_toArray, List.set_cons_zero, List.set_cons_succ]
          refine tk_one (by kernel_rfl) (op_callx (i := 20) (fun v w' => v = .int .u64 (be2 l 18) ∧ Below W15.heap.size W15 w') rfl (by kernel_rfl) (by exact ex_call (by exact rfl) Try.func55 (by kernel_rfl) (by kernel_rfl) (by simp only [List.map_toArray, List.map_cons, List.map_nil] <;> rfl)) ((get2_any _ _ c l _ ((y.below (hB4.trans (hS15.b.mono hB4.size)) (Nat.le_refl _)).more (hB4.trans (hS15.b.mono hB4.size)).size) 18 (by omega)).mono fun e w' g => ⟨_, g.1, ⟨rfl, g.2⟩, hS15.keep (g.2.mono hS15.big)⟩) ?_)
          rintro v16 W16 ⟨rfl, hb⟩ hS16
          try replace hz := hz.below hb hz.lt
          clear hb
          simp only [Act.put, List.setIfInBounds_toArray, List.set_cons_zero, List.set_cons_succ]
          refine tk (i := 21) (.int .u16 (be2 l 18)) hS16 rfl (by kernel_rfl) (by kernel_rfl) (by kernel_rfl) (fun _ _ _ h => h) (by kernel_rfl) (by intro _ h; exact ex_conv (by exact rfl) (by exact rfl) (conv_u16 _ _ .u64 (be2 l 18) (by rw [Try.underlying87]; rfl) Try.underlying22 (be2_rng y.rng 18).1 (be2_rng y.rng 18).2 _)) ?_
          simp only [Act.put, List.setIfInBounds_toArray, List.set_cons_zero, List.set_cons_succ]
          refine tk (i := 22) (.agg #[.int .u16 (be2 l 0), .int .u16 (be2 l 2), .int .u32 (be4 l 4), .int .u32 (be4 l 8), .int .u8 (l.getD 13 0 % 64), .int .u16 (be2 l 14), .int .u16 (be2 l 18), .slice none 0 0, .slice none 0 0]) hS16 rfl (by kernel_rfl) (by kernel_rfl) (by kernel_rfl) (fun _ _ _ h => h) (by kernel_rfl) (by intro _ _; go_simp) ?_
          simp only [Act.put, List.setIfInBounds_toArray, List.set_cons_zero, List.set_cons_succ]
          refine tk_store (i := 24) (by kernel_rfl) rfl (by kernel_rfl) rfl rfl rfl hz tcp_info rfl (by simp [Value.oneCell']) (hS16.keep (below_setRow'.mono hgb)) ?_
          have hS20 := hS16.keep ((below_setRow' (w := W16) (g := g9) (cs := #[.int .u16 (be2 l 0), .int .u16 (be2 l 2), .int .u32 (be4 l 4), .int .u32 (be4 l 8), .int .u8 (l.getD 13 0 % 64), .int .u16 (be2 l 14), .int .u16 (be2 l 18), .slice none 0 0, .slice none 0 0])).mono hgb)
          have hz9 := hz.setRow_same (cs' := #[.int .u16 (be2 l 0), .int .u16 (be2 l 2), .int .u32 (be4 l 4), .int .u32 (be4 l 8), .int .u8 (l.getD 13 0 % 64), .int .u16 (be2 l 14), .int .u16 (be2 l 18), .slice none 0 0, .slice none 0 0])
          generalize W16.setRow g9 #[.int .u16 (be2 l 0), .int .u16 (be2 l 2), .int .u32 (be4 l 4), .int .u32 (be4 l 8), .int .u8 (l.getD 13 0 % 64), .int .u16 (be2 l 14), .int .u16 (be2 l 18), .slice none 0 0, .slice none 0 0] = W9 at hS20 hz9 ⊢
          simp only [Act.put, List.setIfInBounds_toArray, List.set_cons_zero, List.set_cons_succ]
          refine wpAnyH_done (by kernel_rfl) ?_ _
          exact hrest _ _ ⟨hS20, hz9, hgb⟩
      · intro g9 W2 hz hge hsz hba hS2
        have hgb : w4.heap.size ≤ g9 := Nat.le_trans hS.big hge
        clear hge hsz hba
        simp only [Act.put, List.setIfInBounds_toArray, List.set_cons_zero, List.set_cons_succ]
        refine tk_one (by kernel_rfl) (op_callx (i := 1) (fun v w' => v = .int .u64 (be2 l 0) ∧ Below W2.heap.size W2 w') rfl (by kernel_rfl) (by exact ex_call (by exact rfl) Try.func55 (by kernel_rfl) (by kernel_rfl) (by simp only [List.map_toArray, List.map_cons, List.map_nil] <;> rfl)) ((get2_any _ _ c l _ ((y.below (hB4.trans (hS2.b.mono hB4.size)) (Nat.le_refl _)).more (hB4.trans (hS2.b.mono hB4.size)).size) 0 (by omega)).mono fun e w' g => ⟨_, g.1, ⟨rfl, g.2⟩, hS2.keep (g.2.mono hS2.big)⟩) ?_)
        rintro v11 W11 ⟨rfl, hb⟩ hS11
        try replace hz := hz.below hb hz.lt
        clear hb
        simp only [Act.put, List.setIfInBounds_toArray, List.set_cons_zero, List.set_cons_succ]
        refine tk (i := 2) (.int .u16 (be2 l 0)) hS11 rfl (by kernel_rfl) (by kernel_rfl) (by kernel_rfl) (fun _ _ _ h => h) (by kernel_rfl) (by intro _ h; exact ex_conv (by exact rfl) (by exact rfl) (conv_u16 _ _ .u64 (be2 l 0) (by rw [Try.underlying87]; rfl) Try.underlying22 (be2_rng y.rng 0).1 (be2_rng y.rng 0).2 _)) ?_
        simp only [Act.put, List.setIfInBounds_toArray, List.set_cons_zero, List.set_cons_succ]
        refine tk_one (by kernel_rfl) (op_callx (i := 4) (fun v w' => v = .int .u64 (be2 l 2) ∧ Below W11.heap.size W11 w') rfl (by kernel_rfl) (by exact ex_call (by exact rfl) Try.func55 (by kernel_rfl) (by kernel_rfl) (by simp only [List.map_toArray, List.map_cons, List.map_nil] <;> rfl)) ((get2_any _ _ c l _ ((y.below (hB4.trans (hS11.b.mono hB4.size)) (Nat.le_refl _)).more (hB4.trans (hS11.b.mono hB4.size)).size) 2 (by omega)).mono fun e w' g => ⟨_, g.1, ⟨rfl, g.2⟩, hS11.keep (g.2.mono hS11.big)⟩) ?_)
        rintro v12 W12 ⟨rfl, hb⟩ hS12
        try replace hz := hz.below hb hz.lt
        clear hb
        simp only [Act.put, List.setIfInBounds_toArray, List.set_cons_zero, List.set_cons_succ]
        refine tk (i := 5) (.int .u16 (be2 l 2)) hS12 rfl (by kernel_rfl) (by kernel_rfl) (by kernel_rfl) (fun _ _ _ h => h) (by kernel_rfl) (by intro _ h; exact ex_conv (by exact rfl) (by exact rfl) (conv_u16 _ _ .u64 (be2 l 2) (by rw [Try.underlying87]; rfl) Try.underlying22 (be2_rng y.rng 2).1 (be2_rng y.rng 2).2 _)) ?_
        simp only [Act.put, List.setIfInBounds_toArray, List.set_cons_zero, List.set_cons_succ]
        refine tk_one (by kernel_rfl) (op_callx (i := 7) (fun v w' => v = .int .u64 (be4 l 4) ∧ Below W12.heap.size W12 w') rfl (by kernel_rfl) (by exact ex_call (by exact rfl) Try.func55 (by kernel_rfl) (by kernel_rfl) (by simp only [List.map_toArray, List.map_cons, List.map_nil] <;> rfl)) ((get4_any _ _ c l _ ((y.below (hB4.trans (hS12.b.mono hB4.size)) (Nat.le_refl _)).more (hB4.trans (hS12.b.mono hB4.size)).size) 4 (by omega)).mono fun e w' g => ⟨_, g.1, ⟨rfl, g.2⟩, hS12.keep (g.2.mono hS12.big)⟩) ?_)
        rintro v13 W13 ⟨rfl, hb⟩ hS13
        try replace hz := hz.below hb hz.lt
        clear hb
        simp only [Act.put, List.setIfInBounds_toArray, List.set_cons_zero, List.set_cons_succ]
        refine tk (i := 8) (.int .u32 (be4 l 4)) hS13 rfl (by kernel_rfl) (by kernel_rfl) (by kernel_rfl) (fun _ _ _ h => h) (by kernel_rfl) (by intro _ h; exact ex_conv (by exact rfl) (by exact rfl) (conv_u32 _ _ .u64 (be4 l 4) (by rw [Try.underlying87]; rfl) Try.underlying23 (be4_rng y.rng 4).1 (be4_rng y.rng 4).2 _)) ?_
        simp only [Act.put, List.setIfInBounds_toArray, List.set_cons_zero, List.set_cons_succ]
        refine tk_one (by kernel_rfl) (op_callx (i := 10) (fun v w' => v = .int .u64 (be4 l 8) ∧ Below W13.heap.size W13 w') rfl (by kernel_rfl) (by exact ex_call (by exact rfl) Try.func55 (by kernel_rfl) (by kernel_rfl) (by simp only [List.map_toArray, List.map_cons, List.map_nil] <;> rfl)) ((get4_any _ _ c l _ ((y.below (hB4.trans (hS13.b.mono hB4.size)) (Nat.le_refl _)).more (hB4.trans (hS13.b.mono hB4.size)).size) 8 (by omega)).mono fun e w' g => ⟨_, g.1, ⟨rfl, g.2⟩, hS13.keep (g.2.mono hS13.big)⟩) ?_)
        rintro v14 W14 ⟨rfl, hb⟩ hS14
        try replace hz := hz.below hb hz.lt
        clear hb
        simp only [Act.put, List.setIfInBounds_toArray, List.set_cons_zero, List.set_cons_succ]
        refine tk (i := 11) (.int .u32 (be4 l 8)) hS14 rfl (by kernel_rfl) (by kernel_rfl) (by kernel_rfl) (fun _ _ _ h => h) (by kernel_rfl) (by intro _ h; exact ex_conv (by exact rfl) (by exact rfl) (conv_u32 _ _ .u64 (be4 l 8) (by rw [Try.underlying87]; rfl) Try.underlying23 (be4_rng y.rng 8).1 (be4_rng y.rng 8).2 _)) ?_
        simp only [Act.put, List.setIfInBounds_toArray, List.set_cons_zero, List.set_cons_succ]
        refine tk_one (by kernel_rfl) (op_callx (i := 17) (fun v w' => v = .int .u64 (be2 l 14) ∧ Below W14.heap.size W14 w') rfl (by kernel_rfl) (by exact ex_call (by exact rfl) Try.func55 (by kernel_rfl) (by kernel_rfl) (by simp only [List.map_toArray, List.map_cons, List.map_nil] <;> rfl)) ((get2_any _ _ c l _ ((y.below (hB4.trans (hS14.b.mono hB4.size)) (Nat.le_refl _)).more (hB4.trans (hS14.b.mono hB4.size)).size) 14 (by omega)).mono fun e w' g => ⟨_, g.1, ⟨rfl, g.2⟩, hS14.keep (g.2.mono hS14.big)⟩) ?_)
        rintro v15 W15 ⟨rfl, hb⟩ hS15
        try replace hz := hz.below hb hz.lt
        clear hb
        simp only [Act.put, List.setIfInBounds_toArray, List.set_cons_zero, List.set_cons_succ]
        refine tk (i := 18) (.int .u16 (be2 l 14)) hS15 rfl (by kernel_rfl) (by kernel_rfl) (by kernel_rfl) (fun _ _ _ h => h) (by kernel_rfl) (by intro _ h; exact ex_conv (by exact rfl) (by exact rfl) (conv_u16 _ _ .u64 (be2 l 14) (by rw [Try.underlying87]; rfl) Try.underlying22 (be2_rng y.rng 14).1 (be2_rng y.rng 14).2 _)) ?_
        simp only [Act.put, List.setIfInBounds_toArray, List.set_cons_zero, List.set_cons_succ]
        refine tk_one (by kernel_rfl) (op_callx (i := 20) (fun v w' => v = .int .u64 (be2 l 18) ∧ Below W15.heap.size W15 w') rfl (by kernel_rfl) (by exact ex_call (by exact rfl) Try.func55 (by kernel_rfl) (by kernel_rfl) (by simp only [List.map_toArray, List.map_cons, List.map_nil] <;> rfl)) ((get2_any _ _ c l _ ((y.below (hB4.trans (hS15.b.mono hB4.size)) (Nat.le_refl _)).more (hB4.trans (hS15.b.mono hB4.size)).size) 18 (by omega)).mono fun e w' g => ⟨_, g.1, ⟨rfl, g.2⟩, hS15.keep (g.2.mono hS15.big)⟩) ?_)
        rintro v16 W16 ⟨rfl, hb⟩ hS16
        try replace hz := hz.below hb hz.lt
        clear hb
        simp only [Act.put, List.setIfInBounds_toArray, List.set_cons_zero, List.set_cons_succ]
        refine tk (i := 21) (.int .u16 (be2 l 18)) hS16 rfl (by kernel_rfl) (by kernel_rfl) (by kernel_rfl) (fun _ _ _ h => h) (by kernel_rfl) (by intro _ h; exact ex_conv (by exact rfl) (by exact rfl) (conv_u16 _ _ .u64 (be2 l 18) (by rw [Try.underlying87]; rfl) Try.underlying22 (be2_rng y.rng 18).1 (be2_rng y.rng 18).2 _)) ?_
        simp only [Act.put, List.setIfInBounds_toArray, List.set_cons_zero, List.set_cons_succ]
        refine tk (i := 22) (.agg #[.int .u16 (be2 l 0), .int .u16 (be2 l 2), .int .u32 (be4 l 4), .int .u32 (be4 l 8), .int .u8 (l.getD 13 0 % 64), .int .u16 (be2 l 14), .int .u16 (be2 l 18), .slice none 0 0, .slice none 0 0]) hS16 rfl (by kernel_rfl) (by kernel_rfl) (by kernel_rfl) (fun _ _ _ h => h) (by kernel_rfl) (by intro _ _; go_simp) ?_
        simp only [Act.put, List.setIfInBounds_toArray, List.set_cons_zero, List.set_cons_succ]
        refine tk_store (i := 24) (by kernel_rfl) rfl (by kernel_rfl) rfl rfl rfl hz tcp_info rfl (by simp [Value.oneCell']) (hS16.keep (below_setRow'.mono hgb)) ?_
        have hS20 := hS16.keep ((below_setRow' (w := W16) (g := g9) (cs := #[.int .u16 (be2 l 0), .int .u16 (be2 l 2), .int .u32 (be4 l 4), .int .u32 (be4 l 8), .int .u8 (l.getD 13 0 % 64), .int .u16 (be2 l 14), .int .u16 (be2 l 18), .slice none 0 0, .slice none 0 0])).mono hgb)
        have hz9 := hz.setRow_same (cs' := #[.int .u16 (be2 l 0), .int .u16 (be2 l 2), .int .u32 (be4 l 4), .int .u32 (be4 l 8), .int .u8 (l.getD 13 0 % 64), .int .u16 (be2 l 14), .int .u16 (be2 l 18), .slice none 0 0, .slice none 0 0])
        generalize W16.setRow g9 #[.int .u16 (be2 l 0), .int .u16 (be2 l 2), .int .u32 (be4 l 4), .int .u32 (be4 l 8), .int .u8 (l.getD 13 0 % 64), .int .u16 (be2 l 14), .int .u16 (be2 l 18), .slice none 0 0, .slice none 0 0] = W9 at hS20 hz9 ⊢
        simp only [Act.put, List.setIfInBounds_toArray, List.set_cons_zero, List.set_cons_succ]
        refine wpAnyH_done (by kernel_rfl) ?_ _
        exact hrest _ _ ⟨hS20, hz9, hgb⟩
      -- END 10
    case h2 =>
      rintro g9 W9 ⟨hS20, hz9, hgb⟩
      have hB9 : Below w.heap.size w W9 := hB4.trans (hS20.b.mono hB4.size)
      have hH9 := hH4.below hS20.b hH4.lt
      have hg9 : w.heap.size < g9 := Nat.lt_of_lt_of_le hH4.lt hgb
      have hg9' := hz9.lt
      clear hS0 hS20 hH4 hB4
      have hcont := ‹∀ (a : Act) (w : World), Code.wp _ _ _ a w → _›
      refine hcont _ _ ?_
      refine wp_seq (wp_region_lit ?_)
      refine pl_build0 rfl rfl Try.underlying24 (by kernel_rfl) ?_
      intro g6 w6 oz hb6
      simp only [Act.put, List.setIfInBounds_toArray, List.set_cons_zero, List.set_cons_succ]
      refine wl (.slice (some ⟨b0, off, none⟩) l.length c) (by kernel_rfl) (by exact rfl) ?_
      simp only [Act.put, List.setIfInBounds_toArray, List.set_cons_zero, List.set_cons_succ]
      refine wl (.int .i64 (h : Int)) (by kernel_rfl) (by exact rfl) ?_
      simp only [Act.put, List.setIfInBounds_toArray, List.set_cons_zero, List.set_cons_succ]
      refine wl_slice _ (.tmp 67) (some (.const (.int .i64 20))) (some (.tmp 68)) none rfl (by kernel_rfl) _ rfl _ _ _ rfl rfl rfl (hsl7 _) ?_
      simp only [Act.put, List.setIfInBounds_toArray, List.set_cons_zero, List.set_cons_succ]
      have hB6 := hB9.trans (hb6.mono hB9.size)
      refine pl_app (.tmp 66) (.tmp 69) _ rfl rfl Try.underlying24 info8 W9.heap.size _ [] rfl oz _ A7 (h - 20) c7 ((l.take h).drop 20) rfl (y7.below hB6 (Nat.le_refl _)) (by simp; omega) hb6.size ?_
      intro v1 w1 ho1 hb1
      have ho1 : OwnB w1 W9.heap.size v1 ((l.take h).drop 20) := ho1
      obtain ⟨A5, k5, rfl, _⟩ := own_shape ho1.own
      simp only [Act.put, List.setIfInBounds_toArray, List.set_cons_zero, List.set_cons_succ]
      refine wl (.pointer (some ⟨g9, 7, none⟩)) (by kernel_rfl) (by exact ex_field 7 0 (by exact rfl) Try.underlying26 (by exact rfl) rfl (by kernel_rfl) (by exact rfl)) ?_
      simp only [Act.put, List.setIfInBounds_toArray, List.set_cons_zero, List.set_cons_succ]
      have hb1 := hb6.trans hb1
      have hz1 := hz9.below hb1 hz9.lt
      refine pl_store1 (v := (.slice A5 ((l.take h).drop 20).length k5)) rfl rfl rfl rfl rfl (by kernel_rfl) (hz1.cell 7 (v := .slice none 0 0) rfl) (hz1.free 7) rfl ?_
      simp only [Act.put, List.setIfInBounds_toArray, List.set_cons_zero, List.set_cons_succ]
      have hzC : Has (w1.setCell ⟨g9, 7, none⟩ (.slice A5 ((l.take h).drop 20).length k5)) g9 (.cells #[.int .u16 (be2 l 0), .int .u16 (be2 l 2), .int .u32 (be4 l 4), .int .u32 (be4 l 8), .int .u8 (l.getD 13 0 % 64), .int .u16 (be2 l 14), .int .u16 (be2 l 18), .slice A5 ((l.take h).drop 20).length k5, .slice none 0 0] 26 (0, 0)) := hz1.setCell 7 (.slice A5 ((l.take h).drop 20).length k5)
      have hoC : OwnB (w1.setCell ⟨g9, 7, none⟩ (.slice A5 ((l.take h).drop 20).length k5)) W9.heap.size (.slice A5 ((l.take h).drop 20).length k5) ((l.take h).drop 20) := ho1.setCell hg9' 7 (.slice A5 ((l.take h).drop 20).length k5)
      have hHC : Has (w1.setCell ⟨g9, 7, none⟩ (.slice A5 ((l.take h).drop 20).length k5)) w.heap.size (.cells #[.int .u16 0, .int .u16 0, .int .u32 0, .int .u32 0, .int .u8 0, .int .u16 0, .int .u16 0, .slice none 0 0, .slice none 0 0] 26 (0, 0)) := (hH9.below hb1 hH9.lt).setCell_other (by omega) 7 (.slice A5 ((l.take h).drop 20).length k5)
      have hBC : Below w.heap.size w (w1.setCell ⟨g9, 7, none⟩ (.slice A5 ((l.take h).drop 20).length k5)) := below_setCell (hB9.trans (hb1.mono hB9.size)) (by omega) 7 (.slice A5 ((l.take h).drop 20).length k5)
      have hsC : W9.heap.size ≤ (w1.setCell ⟨g9, 7, none⟩ (.slice A5 ((l.take h).drop 20).length k5)).heap.size := by have := hb1.size; simp; omega
      generalize (w1.setCell ⟨g9, 7, none⟩ (.slice A5 ((l.take h).drop 20).length k5)) = WC at hzC hoC hHC hBC hsC ⊢
      refine wpList_nil ?_
      change Code.wp _ _ _ _ _
      clear hz1 ho1 hb1 oz hb6 hB6 hB9 hH9 y7 hsl7
      refine wp_seq (wp_region_lit ?_)
      refine pl_build0 rfl rfl Try.underlying24 (by kernel_rfl) ?_
      intro g6 w6 oz hb6
      simp only [Act.put, List.setIfInBounds_toArray, List.set_cons_zero, List.set_cons_succ]
      refine wl (.slice (some ⟨b0, off, none⟩) l.length c) (by kernel_rfl) (by exact rfl) ?_
      simp only [Act.put, List.setIfInBounds_toArray, List.set_cons_zero, List.set_cons_succ]
      refine wl (.int .i64 (h : Int)) (by kernel_rfl) (by exact rfl) ?_
      simp only [Act.put, List.setIfInBounds_toArray, List.set_cons_zero, List.set_cons_succ]
      refine wl_slice _ (.tmp 73) (some (.tmp 74)) none none rfl (by kernel_rfl) _ rfl _ _ _ rfl rfl rfl (hsl8 _) ?_
      simp only [Act.put, List.setIfInBounds_toArray, List.set_cons_zero, List.set_cons_succ]
      have hB6 := hBC.trans (hb6.mono hBC.size)
      refine pl_app (.tmp 72) (.tmp 75) _ rfl rfl Try.underlying24 info8 WC.heap.size _ [] rfl oz _ A8 (l.length - h) c8 (l.drop h) rfl (y8.below hB6 (Nat.le_refl _)) (by simp; omega) hb6.size ?_
      intro v2 w2 ho2 hb2
      have ho2 : OwnB w2 WC.heap.size v2 (l.drop h) := ho2
      obtain ⟨A6, k6, rfl, _⟩ := own_shape ho2.own
      simp only [Act.put, List.setIfInBounds_toArray, List.set_cons_zero, List.set_cons_succ]
      refine wl (.pointer (some ⟨g9, 8, none⟩)) (by kernel_rfl) (by exact ex_field 8 0 (by exact rfl) Try.underlying26 (by exact rfl) rfl (by kernel_rfl) (by exact rfl)) ?_
      simp only [Act.put, List.setIfInBounds_toArray, List.set_cons_zero, List.set_cons_succ]
      have hb2 := hb6.trans hb2
      have hz2 := hzC.below hb2 hzC.lt
      refine pl_store1 (v := (.slice A6 (l.drop h).length k6)) rfl rfl rfl rfl rfl (by kernel_rfl) (hz2.cell 8 (v := .slice none 0 0) rfl) (hz2.free 8) rfl ?_
      simp only [Act.put, List.setIfInBounds_toArray, List.set_cons_zero, List.set_cons_succ]
      have hgC := hzC.lt
      have hzD : Has (w2.setCell ⟨g9, 8, none⟩ (.slice A6 (l.drop h).length k6)) g9 (.cells #[.int .u16 (be2 l 0), .int .u16 (be2 l 2), .int .u32 (be4 l 4), .int .u32 (be4 l 8), .int .u8 (l.getD 13 0 % 64), .int .u16 (be2 l 14), .int .u16 (be2 l 18), .slice A5 ((l.take h).drop 20).length k5, .slice A6 (l.drop h).length k6] 26 (0, 0)) := hz2.setCell 8 (.slice A6 (l.drop h).length k6)
      have ho5D : OwnB (w2.setCell ⟨g9, 8, none⟩ (.slice A6 (l.drop h).length k6)) W9.heap.size (.slice A5 ((l.take h).drop 20).length k5) ((l.take h).drop 20) := (hoC.below hb2).setCell hg9' 8 (.slice A6 (l.drop h).length k6)
      have ho6D : OwnB (w2.setCell ⟨g9, 8, none⟩ (.slice A6 (l.drop h).length k6)) WC.heap.size (.slice A6 (l.drop h).length k6) (l.drop h) := ho2.setCell hgC 8 (.slice A6 (l.drop h).length k6)
      have hHD : Has (w2.setCell ⟨g9, 8, none⟩ (.slice A6 (l.drop h).length k6)) w.heap.size (.cells #[.int .u16 0, .int .u16 0, .int .u32 0, .int .u32 0, .int .u8 0, .int .u16 0, .int .u16 0, .slice none 0 0, .slice none 0 0] 26 (0, 0)) := (hHC.below hb2 hHC.lt).setCell_other (by omega) 8 (.slice A6 (l.drop h).length k6)
      have hBD : Below w.heap.size w (w2.setCell ⟨g9, 8, none⟩ (.slice A6 (l.drop h).length k6)) := below_setCell (hBC.trans (hb2.mono hBC.size)) (by omega) 8 (.slice A6 (l.drop h).length k6)
      generalize (w2.setCell ⟨g9, 8, none⟩ (.slice A6 (l.drop h).length k6)) = WD at hzD ho5D ho6D hHD hBD ⊢
      refine wpList_nil ?_
      change Code.wp _ _ _ _ _
      refine wp_seq (wp_region_lit ?_)
      refine wpList_load_row rfl 26 (.tmp 9) rfl g9 rfl 26 #[.int .u16 (be2 l 0), .int .u16 (be2 l 2), .int .u32 (be4 l 4), .int .u32 (be4 l 8), .int .u8 (l.getD 13 0 % 64), .int .u16 (be2 l 14), .int .u16 (be2 l 18), .slice A5 ((l.take h).drop 20).length k5, .slice A6 (l.drop h).length k6] (0, 0) _ hzD Try.underlying26 rfl tcp_info ?_
      simp only [Act.put, List.setIfInBounds_toArray, List.set_cons_zero, List.set_cons_succ]
      refine wpList_store_row rfl 26 (.tmp 6) (.tmp 78) rfl w.heap.size _ rfl rfl 26 _ hHD tcp_info rfl (by simp [Value.oneCell']) ?_
      simp only [Act.put, List.setIfInBounds_toArray, List.set_cons_zero, List.set_cons_succ]
      refine wl (.int .i64 0) (by kernel_rfl) (by exact rfl) ?_
      simp only [Act.put, List.setIfInBounds_toArray, List.set_cons_zero, List.set_cons_succ]
      refine wpList_nil ?_
      change Code.wp _ Code.ret _ _ _
      refine wp_ret ?_
      have hHw := hHC.lt
      exact bodyPost_ret (res_cell2 Try.results30 rfl (hHD.setRow_same.load (P := Try.prog) 26 Try.underlying26 rfl tcp_info) rfl) rfl ⟨⟨A5, k5, A6, k6⟩, rfl, hok, (ho5D.setRow (by omega)).more (by omega), (ho6D.setRow hHw).more (by omega), hBD.trans below_setRow'⟩
end Go.Proofs.Ytaobnbjkhgcmlaa
