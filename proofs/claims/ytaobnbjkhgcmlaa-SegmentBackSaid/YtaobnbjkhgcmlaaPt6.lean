/-
  The walk of segment.parseTCP over IPv6.
-/
import Derived.Test.YtaobnbjkhgcmlaaPt4
import Derived.Test.YtaobnbjkhgcmlaaReg8
namespace Go.Proofs.Ytaobnbjkhgcmlaa
open Go.RowKit Go.Shelf

set_option maxRecDepth 100000 in
set_option maxHeartbeats 4000000 in
theorem ptcp6_any (a b : List Int) (ha : a.length = 16) (hb : b.length = 16) (ra : InB a) (rb : InB b) (g1 g2 : Nat) (A : Option Addr) (c : Nat) (l : List Int) (w : World) (hA : Has w g1 (.cells (u8s a).toArray 36 (0, 0))) (hB' : Has w g2 (.cells (u8s b).toArray 36 (0, 0))) (y : By w.heap.size w A l.length c l) :
    Calls Try.prog 56 #[.func (.func 65) #[] #[.pointer (some ⟨g1, 0, none⟩), .pointer (some ⟨g2, 0, none⟩)], .slice A l.length c] w fun e w' => ToldT (tGot (pse6 a b l.length 6) l) (tErr (pse6 a b l.length 6) l) w e w' := by
  obtain ⟨PS, hPS⟩ : ∃ PS, pse6 a b (l.length : Int) 6 = PS := ⟨_, rfl⟩
  have hpl : PS.length ≤ 100 := by rw [← hPS, pse6_len ha hb]; decide
  rw [hPS]
  have hH1 : Has (w.alloc (.cells #[.int .u16 0, .int .u16 0, .int .u32 0, .int .u32 0, .int .u8 0, .int .u16 0, .int .u16 0, .slice none 0 0, .slice none 0 0] 26)) w.heap.size (.cells #[.int .u16 0, .int .u16 0, .int .u32 0, .int .u32 0, .int .u8 0, .int .u16 0, .int .u16 0, .slice none 0 0, .slice none 0 0] 26 (0, 0)) := Has.newAt rfl
  have hB1 : Below w.heap.size w (w.alloc (.cells #[.int .u16 0, .int .u16 0, .int .u32 0, .int .u32 0, .int .u8 0, .int .u16 0, .int .u16 0, .slice none 0 0, .slice none 0 0] 26)) := (Below.refl _ _).alloc (Nat.le_refl _) _
  have hbig := Nat.le_trans y.cap y.big
  by_cases h20 : l.length < 20
  · have he : tErr PS l = 60 := by unfold tErr; rw [if_pos h20]
    have hd := tGot_err (show tErr PS l ≠ 0 by rw [he]; decide)
    rw [hd, he]
    clear hd he
    go_enter Try.func56, Try.ntmps56
    go_wp2_with (refine wpList_store_has rfl 26 (.tmp 4) (.tmp 10) rfl w.heap.size _ rfl rfl 26 _ hH1 tcp_info rfl (by simp [Value.oneCell']) ?_; intro w9 hH9 hb9)
    exact bodyPost_ret (res_cell2 Try.results56 rfl (hH9.load (P := Try.prog) 26 Try.underlying26 rfl tcp_info) rfl) rfl ⟨noP, rfl, noT_ok, OwnB.nil _ _, OwnB.nil _ _, hB1.trans (hb9.mono (Nat.le_refl _))⟩
  have r12 := getD_rng y.rng 12
  obtain ⟨b0, off, rfl, hbl, -⟩ := y.row.at_ (by omega)
  have d12 := (y.below hB1 (Nat.le_refl _)).at (k := 12) (by omega)
  have hth : tHead l = l.getD 12 0 / 16 * 4 := rfl
  obtain ⟨x12, hx12⟩ : ∃ x, l.getD 12 0 = x := ⟨_, rfl⟩
  rw [hx12] at d12 r12 hth
  have z12 : (12 : Int) < (l.length : Int) := by omega
  obtain ⟨h, hh⟩ : ∃ h : Nat, x12 / 16 * 4 = (h : Int) := ⟨(x12 / 16 * 4).toNat, by omega⟩
  have hthn : (tHead l).toNat = h := by rw [hth, hh]; rfl
  rw [hh] at hth
  have hhb : h ≤ 60 := by omega
  by_cases h61 : h < 20 ∨ l.length < h
  · have he : tErr PS l = 61 := by unfold tErr; rw [if_neg h20, hth, if_pos (by omega)]
    have hd := tGot_err (show tErr PS l ≠ 0 by rw [he]; decide)
    rw [hd, he]
    clear hd he hth hthn hx12
    rcases Nat.lt_or_ge h 20 with h1 | h1
    · have h1 : (h : Int) < 20 := by omega
      clear h61
      go_enter Try.func56, Try.ntmps56
      go_wp2_with (refine wpList_store_has rfl 26 (.tmp 4) (.tmp 25) rfl w.heap.size _ rfl rfl 26 _ hH1 tcp_info rfl (by simp [Value.oneCell']) ?_; intro w9 hH9 hb9)
      exact bodyPost_ret (res_cell2 Try.results56 rfl (hH9.load (P := Try.prog) 26 Try.underlying26 rfl tcp_info) rfl) rfl ⟨noP, rfl, noT_ok, OwnB.nil _ _, OwnB.nil _ _, hB1.trans (hb9.mono (Nat.le_refl _))⟩
    · have h2 : (l.length : Int) < (h : Int) := by omega
      have h1 : (20 : Int) ≤ (h : Int) := by omega
      clear h61
      go_enter Try.func56, Try.ntmps56
      go_wp2_with (refine wpList_store_has rfl 26 (.tmp 4) (.tmp 25) rfl w.heap.size _ rfl rfl 26 _ hH1 tcp_info rfl (by simp [Value.oneCell']) ?_; intro w9 hH9 hb9)
      exact bodyPost_ret (res_cell2 Try.results56 rfl (hH9.load (P := Try.prog) 26 Try.underlying26 rfl tcp_info) rfl) rfl ⟨noP, rfl, noT_ok, OwnB.nil _ _, OwnB.nil _ _, hB1.trans (hb9.mono (Nat.le_refl _))⟩
  have h1 : (20 : Int) ≤ (h : Int) := by omega
  have h2 : (h : Int) ≤ (l.length : Int) := by omega
  by_cases h62 : 65535 < l.length
  · have he : tErr PS l = 2 := by unfold tErr; rw [if_neg h20, hth, if_neg (by omega), if_pos h62]
    have hd := tGot_err (show tErr PS l ≠ 0 by rw [he]; decide)
    rw [hd, he]
    clear hd he hth hthn hx12 h61
    go_enter Try.func56, Try.ntmps56
    go_wp2_with (refine wpList_store_has rfl 26 (.tmp 4) (.tmp 29) rfl w.heap.size _ rfl rfl 26 _ hH1 tcp_info rfl (by simp [Value.oneCell']) ?_; intro w9 hH9 hb9)
    exact bodyPost_ret (res_cell2 Try.results56 rfl (hH9.load (P := Try.prog) 26 Try.underlying26 rfl tcp_info) rfl) rfl ⟨noP, rfl, noT_ok, OwnB.nil _ _, OwnB.nil _ _, hB1.trans (hb9.mono (Nat.le_refl _))⟩
  by_cases hg : sumw (PS ++ l) = 65535
  case neg =>
    have he : tErr PS l = 62 := by unfold tErr; rw [if_neg h20, hth, if_neg (by omega), if_neg h62, if_pos hg]
    have hd := tGot_err (show tErr PS l ≠ 0 by rw [he]; decide)
    rw [hd, he]
    have hg := Lib.hid hg
    clear hd he hth hthn h61
    go_enter Try.func56, Try.ntmps56
    go_wp2_with fail
    refine (head6_any a b ha hb ra rb 6 (l.length : Int) (by decide) (by decide) (by omega) (by omega) g1 g2 _ (hA.below hB1 hA.lt) (hB'.below hB1 hB'.lt)).mono ?_
    rintro e w3 ⟨v3, rfl, o3, hb⟩
    rw [hPS] at o3
    obtain ⟨A5, k5, rfl, y5⟩ := o3.by_
    have hH3 := hH1.below hb hH1.lt
    have hB3 := hB1.trans (hb.mono hB1.size)
    have yl := (y.below hB3 (Nat.le_refl _)).more hB3.size
    have d12 := (y.below hB3 (Nat.le_refl _)).at (k := 12) (by omega)
    rw [hx12] at d12
    clear hb o3
    go_wp2_with fail
    refine (good_new [(A5, k5, PS), (some ⟨b0, off, none⟩, c, l)] 2 (by simp only [List.map_cons, List.map_nil]; exact Has.newAt (by simp)) rfl (all2 ((y5.alloc (Nat.le_refl _) _).more (by simp)) ((yl.alloc (Nat.le_refl _) _).more (by simp))) (by simp)).mono ?_
    rintro e w4 ⟨q, rfl, hq, hb⟩
    obtain rfl : q = false := hq.out.trans (by rw [show flat [(A5, k5, PS), (some ⟨b0, off, none⟩, c, l)] = PS ++ l from by simp [flat]]; exact decide_eq_false hg.out)
    have hb : Below w3.heap.size w3 w4 := ((Below.refl _ _).alloc (Nat.le_refl _) _).trans (hb.mono (by simp))
    have hH4 := hH3.below hb hH3.lt
    have hB4 := hB3.trans (hb.mono hB3.size)
    clear hb d12
    go_wp2_with (refine wpList_store_has rfl 26 (.tmp 4) (.tmp 38) rfl w.heap.size _ rfl rfl 26 _ hH4 tcp_info rfl (by simp [Value.oneCell']) ?_; intro w9 hH9 hb9)
    exact bodyPost_ret (res_cell2 Try.results56 rfl (hH9.load (P := Try.prog) 26 Try.underlying26 rfl tcp_info) rfl) rfl ⟨noP, rfl, noT_ok, OwnB.nil _ _, OwnB.nil _ _, hB4.trans (hb9.mono (Nat.le_refl _))⟩
  case pos =>
    have he : tErr PS l = 0 := by unfold tErr; rw [if_neg h20, hth, if_neg (by omega), if_neg h62, if_neg (by simp [hg])]
    have hd := tGot_ok he
    rw [hd, he]
    have hg := Lib.hid hg
    have htof : tOf l = ⟨be2 l 0, be2 l 2, be4 l 4, be4 l 8, l.getD 13 0 % 64, be2 l 14, be2 l 18, (l.take h).drop 20, l.drop h⟩ := by simp only [tOf, hthn]
    rw [htof]
    have hok := tOf_ok y.rng
    rw [htof] at hok
    clear hd he hth h61 htof hthn
    go_enter Try.func56, Try.ntmps56
    go_wp2_with fail
    refine (head6_any a b ha hb ra rb 6 (l.length : Int) (by decide) (by decide) (by omega) (by omega) g1 g2 _ (hA.below hB1 hA.lt) (hB'.below hB1 hB'.lt)).mono ?_
    rintro e w3 ⟨v3, rfl, o3, hb⟩
    rw [hPS] at o3
    obtain ⟨A5, k5, rfl, y5⟩ := o3.by_
    have hH3 := hH1.below hb hH1.lt
    have hB3 := hB1.trans (hb.mono hB1.size)
    have yl := (y.below hB3 (Nat.le_refl _)).more hB3.size
    have d12 := (y.below hB3 (Nat.le_refl _)).at (k := 12) (by omega)
    rw [hx12] at d12
    clear hb o3
    go_wp2_with fail
    refine (good_new [(A5, k5, PS), (some ⟨b0, off, none⟩, c, l)] 2 (by simp only [List.map_cons, List.map_nil]; exact Has.newAt (by simp)) rfl (all2 ((y5.alloc (Nat.le_refl _) _).more (by simp)) ((yl.alloc (Nat.le_refl _) _).more (by simp))) (by simp)).mono ?_
    rintro e w4 ⟨q, rfl, hq, hb⟩
    obtain rfl : q = true := hq.out.trans (by rw [show flat [(A5, k5, PS), (some ⟨b0, off, none⟩, c, l)] = PS ++ l from by simp [flat]]; exact decide_eq_true hg.out)
    have hb : Below w3.heap.size w3 w4 := ((Below.refl _ _).alloc (Nat.le_refl _) _).trans (hb.mono (by simp))
    have hH4 := hH3.below hb hH3.lt
    have hB4 := hB3.trans (hb.mono hB3.size)
    clear hb d12
    go_wp2_with fail
    have r13 := getD_rng y.rng 13
    have hlo : 20 ≤ h := by omega
    have hhi : h ≤ l.length := by omega
    obtain ⟨A7, c7, hsl7, y7⟩ := y.part (P := Try.prog) 24 Try.underlying24 (by kernel_rfl) (k := 20) (m := h) hlo hhi
    obtain ⟨A8, c8, hsl8, y8⟩ := y.from_ (P := Try.prog) 24 Try.underlying24 (by kernel_rfl) (k := h) hhi
    have hS0 : SPT w w4.drew := ⟨⟨_, hH4.drew, rfl⟩, hB4.trans (below_drew _ _), hH4.drew.lt⟩
    refine wp_region_held_drew (S := SPT w) (by kernel_rfl) hS0 (fun hS => ?_)
    generalize w4.drew = W0 at hS ⊢
    -- REGION 10
    refine tk (i := 0) (.slice (some ⟨b0, off, none⟩) l.length c) hS rfl (by kernel_rfl) (by kernel_rfl) (by kernel_rfl) (fun _ _ _ h => h) (by kernel_rfl) (by intro _ _; exact rfl) ?_
    simp only [Act.put, List.setIfInBounds_toArray, List.set_cons_zero, List.set_cons_succ]
    refine tk (i := 2) (.slice (some ⟨b0, off, none⟩) l.length c) hS rfl (by kernel_rfl) (by kernel_rfl) (by kernel_rfl) (fun _ _ _ h => h) (by kernel_rfl) (by intro _ _; exact rfl) ?_
    simp only [Act.put, List.setIfInBounds_toArray, List.set_cons_zero, List.set_cons_succ]
    refine tk (i := 4) (.slice (some ⟨b0, off, none⟩) l.length c) hS rfl (by kernel_rfl) (by kernel_rfl) (by kernel_rfl) (fun _ _ _ h => h) (by kernel_rfl) (by intro _ _; exact rfl) ?_
    simp only [Act.put, List.setIfInBounds_toArray, List.set_cons_zero, List.set_cons_succ]
    refine tk (i := 6) (.slice (some ⟨b0, off, none⟩) l.length c) hS rfl (by kernel_rfl) (by kernel_rfl) (by kernel_rfl) (fun _ _ _ h => h) (by kernel_rfl) (by intro _ _; exact rfl) ?_
    simp only [Act.put, List.setIfInBounds_toArray, List.set_cons_zero, List.set_cons_succ]
    refine tk (i := 8) (.slice (some ⟨b0, off, none⟩) l.length c) hS rfl (by kernel_rfl) (by kernel_rfl) (by kernel_rfl) (fun _ _ _ h => h) (by kernel_rfl) (by intro _ _; exact rfl) ?_
    simp only [Act.put, List.setIfInBounds_toArray, List.set_cons_zero, List.set_cons_succ]
    refine tk (i := 9) (.pointer (some ⟨b0, off + 13, none⟩)) hS rfl (by kernel_rfl) (by kernel_rfl) (by kernel_rfl) (fun _ _ _ h => h) (by kernel_rfl) (by intro _ _; exact ex_index (by exact rfl) Try.underlying24 (by kernel_rfl) (by exact rfl) (by exact rfl) (by omega)) ?_
    simp only [Act.put, List.setIfInBounds_toArray, List.set_cons_zero, List.set_cons_succ]
    refine tk (i := 10) (.int .u8 (l.getD 13 0)) hS rfl (by kernel_rfl) (by kernel_rfl) (by kernel_rfl) (fun _ _ _ h => h) (by kernel_rfl) (by intro _ h; exact ex_cell (by exact rfl) Try.underlying5 rfl (by exact rfl) ((y.below h.bel (Nat.le_refl _)).at (k := 13) (by omega))) ?_
    simp only [Act.put, List.setIfInBounds_toArray, List.set_cons_zero, List.set_cons_succ]
    refine tk (i := 11) (.int .u8 (l.getD 13 0 % 64)) hS rfl (by kernel_rfl) (by kernel_rfl) (by kernel_rfl) (fun _ _ _ h => h) (by kernel_rfl) (by intro _ _; exact ex_bin (by exact rfl) (by exact rfl) (by exact rfl) (by decide) (and63 _ _ r13 _)) ?_
    simp only [Act.put, List.setIfInBounds_toArray, List.set_cons_zero, List.set_cons_succ]
    refine tk (i := 12) (.slice (some ⟨b0, off, none⟩) l.length c) hS rfl (by kernel_rfl) (by kernel_rfl) (by kernel_rfl) (fun _ _ _ h => h) (by kernel_rfl) (by intro _ _; exact rfl) ?_
    simp only [Act.put, List.setIfInBounds_toArray, List.set_cons_zero, List.set_cons_succ]
    refine tk (i := 14) (.slice (some ⟨b0, off, none⟩) l.length c) hS rfl (by kernel_rfl) (by kernel_rfl) (by kernel_rfl) (fun _ _ _ h => h) (by kernel_rfl) (by intro _ _; exact rfl) ?_
    simp only [Act.put, List.setIfInBounds_toArray, List.set_cons_zero, List.set_cons_succ]
    refine tk (i := 16) (.slice (some ⟨b0, off, none⟩) l.length c) hS rfl (by kernel_rfl) (by kernel_rfl) (by kernel_rfl) (fun _ _ _ h => h) (by kernel_rfl) (by intro _ _; exact rfl) ?_
    simp only [Act.put, List.setIfInBounds_toArray, List.set_cons_zero, List.set_cons_succ]
    refine tk (i := 17) (.int .i64 (h : Int)) hS rfl (by kernel_rfl) (by kernel_rfl) (by kernel_rfl) (fun _ _ _ h => h) (by kernel_rfl) (by intro _ _; exact rfl) ?_
    simp only [Act.put, List.setIfInBounds_toArray, List.set_cons_zero, List.set_cons_succ]
    refine tk (i := 18) (.slice A7 (h - 20) c7) hS rfl (by kernel_rfl) (by kernel_rfl) (by kernel_rfl) (fun _ _ _ h => h) (by kernel_rfl) (by intro w' _; exact ex_slice (by exact rfl) (by exact rfl) (hsl7 w')) ?_
    simp only [Act.put, List.setIfInBounds_toArray, List.set_cons_zero, List.set_cons_succ]
    refine tk (i := 20) (.slice (some ⟨b0, off, none⟩) l.length c) hS rfl (by kernel_rfl) (by kernel_rfl) (by kernel_rfl) (fun _ _ _ h => h) (by kernel_rfl) (by intro _ _; exact rfl) ?_
    simp only [Act.put, List.setIfInBounds_toArray, List.set_cons_zero, List.set_cons_succ]
    refine tk (i := 21) (.int .i64 (h : Int)) hS rfl (by kernel_rfl) (by kernel_rfl) (by kernel_rfl) (fun _ _ _ h => h) (by kernel_rfl) (by intro _ _; exact rfl) ?_
    simp only [Act.put, List.setIfInBounds_toArray, List.set_cons_zero, List.set_cons_succ]
    refine tk (i := 22) (.slice A8 (l.length - h) c8) hS rfl (by kernel_rfl) (by kernel_rfl) (by kernel_rfl) (fun _ _ _ h => h) (by kernel_rfl) (by intro w' _; exact ex_slice (by exact rfl) (by exact rfl) (hsl8 w')) ?_
    simp only [Act.put, List.setIfInBounds_toArray, List.set_cons_zero, List.set_cons_succ]
    refine tk_one (by kernel_rfl) (op_callx (i := 1) (fun v w' => v = .int .u16 (be2 l 0)) rfl (by kernel_rfl) (by exact ex_call (by exact rfl) Try.func58 (by kernel_rfl) (by kernel_rfl) (by simp only [List.map_toArray, List.map_cons, List.map_nil] <;> rfl)) ((two6_any _ _ c l _ ((y.below hS.bel (Nat.le_refl _)).more hS.bel.size) 0 (by omega)).mono fun e w' g => ⟨_, g.1, rfl, hS.keep g.2⟩) ?_)
    rintro v1 W1 rfl hS1
    simp only [Act.put, List.setIfInBounds_toArray, List.set_cons_zero, List.set_cons_succ]
    refine tk_one (by kernel_rfl) (op_callx (i := 3) (fun v w' => v = .int .u16 (be2 l 2)) rfl (by kernel_rfl) (by exact ex_call (by exact rfl) Try.func58 (by kernel_rfl) (by kernel_rfl) (by simp only [List.map_toArray, List.map_cons, List.map_nil] <;> rfl)) ((two6_any _ _ c l _ ((y.below hS1.bel (Nat.le_refl _)).more hS1.bel.size) 2 (by omega)).mono fun e w' g => ⟨_, g.1, rfl, hS1.keep g.2⟩) ?_)
    rintro v2 W2 rfl hS2
    simp only [Act.put, List.setIfInBounds_toArray, List.set_cons_zero, List.set_cons_succ]
    refine tk_one (by kernel_rfl) (op_callx (i := 5) (fun v w' => v = .int .u32 (be4 l 4)) rfl (by kernel_rfl) (by exact ex_call (by exact rfl) Try.func71 (by kernel_rfl) (by kernel_rfl) (by simp only [List.map_toArray, List.map_cons, List.map_nil] <;> rfl)) ((four6_any _ _ c l _ ((y.below hS2.bel (Nat.le_refl _)).more hS2.bel.size) 4 (by omega)).mono fun e w' g => ⟨_, g.1, rfl, hS2.keep g.2⟩) ?_)
    rintro v3 W3 rfl hS3
    simp only [Act.put, List.setIfInBounds_toArray, List.set_cons_zero, List.set_cons_succ]
    refine tk_one (by kernel_rfl) (op_callx (i := 7) (fun v w' => v = .int .u32 (be4 l 8)) rfl (by kernel_rfl) (by exact ex_call (by exact rfl) Try.func71 (by kernel_rfl) (by kernel_rfl) (by simp only [List.map_toArray, List.map_cons, List.map_nil] <;> rfl)) ((four6_any _ _ c l _ ((y.below hS3.bel (Nat.le_refl _)).more hS3.bel.size) 8 (by omega)).mono fun e w' g => ⟨_, g.1, rfl, hS3.keep g.2⟩) ?_)
    rintro v4 W4 rfl hS4
    simp only [Act.put, List.setIfInBounds_toArray, List.set_cons_zero, List.set_cons_succ]
    refine tk_one (by kernel_rfl) (op_callx (i := 13) (fun v w' => v = .int .u16 (be2 l 14)) rfl (by kernel_rfl) (by exact ex_call (by exact rfl) Try.func58 (by kernel_rfl) (by kernel_rfl) (by simp only [List.map_toArray, List.map_cons, List.map_nil] <;> rfl)) ((two6_any _ _ c l _ ((y.below hS4.bel (Nat.le_refl _)).more hS4.bel.size) 14 (by omega)).mono fun e w' g => ⟨_, g.1, rfl, hS4.keep g.2⟩) ?_)
    rintro v9 W9 rfl hS9
    simp only [Act.put, List.setIfInBounds_toArray, List.set_cons_zero, List.set_cons_succ]
    refine tk_one (by kernel_rfl) (op_callx (i := 15) (fun v w' => v = .int .u16 (be2 l 18)) rfl (by kernel_rfl) (by exact ex_call (by exact rfl) Try.func58 (by kernel_rfl) (by kernel_rfl) (by simp only [List.map_toArray, List.map_cons, List.map_nil] <;> rfl)) ((two6_any _ _ c l _ ((y.below hS9.bel (Nat.le_refl _)).more hS9.bel.size) 18 (by omega)).mono fun e w' g => ⟨_, g.1, rfl, hS9.keep g.2⟩) ?_)
    rintro v10 W10 rfl hS10
    simp only [Act.put, List.setIfInBounds_toArray, List.set_cons_zero, List.set_cons_succ]
    refine tk_one (by kernel_rfl) (op_callx (i := 19) (fun v w' => OwnB w' W10.heap.size v ((l.take h).drop 20) ∧ Below W10.heap.size W10 w') rfl (by kernel_rfl) (by exact ex_call (by exact rfl) Try.func60 (by kernel_rfl) (by kernel_rfl) (by simp only [List.map_toArray, List.map_cons, List.map_nil] <;> rfl)) ((clone_n _ _ _ ((l.take h).drop 20) _ ((y7.below hS10.bel (Nat.le_refl _)).more hS10.bel.size) (by simp; omega)).mono fun e w' g => by obtain ⟨v, rfl, h2, h3⟩ := g; exact ⟨_, rfl, ⟨h2, h3⟩, hS10.keep h3⟩) ?_)
    rintro v5 W5 ⟨ho5, hb5⟩ hS5
    obtain ⟨A5, k5, rfl, _⟩ := own_shape ho5.own
    simp only [Act.put, List.setIfInBounds_toArray, List.set_cons_zero, List.set_cons_succ]
    refine tk_one (by kernel_rfl) (op_callx (i := 23) (fun v w' => OwnB w' W5.heap.size v (l.drop h) ∧ Below W5.heap.size W5 w') rfl (by kernel_rfl) (by exact ex_call (by exact rfl) Try.func60 (by kernel_rfl) (by kernel_rfl) (by simp only [List.map_toArray, List.map_cons, List.map_nil] <;> rfl)) ((clone_n _ _ _ (l.drop h) _ ((y8.below hS5.bel (Nat.le_refl _)).more hS5.bel.size) (by simp; omega)).mono fun e w' g => by obtain ⟨v, rfl, h2, h3⟩ := g; exact ⟨_, rfl, ⟨h2, h3⟩, hS5.keep h3⟩) ?_)
    rintro v6 W6 ⟨ho6, hb6⟩ hS6
    obtain ⟨A6, k6, rfl, _⟩ := own_shape ho6.own
    have ho5 := ho5.below hb6
    simp only [Act.put, List.setIfInBounds_toArray, List.set_cons_zero, List.set_cons_succ]
    refine tk (i := 24) (.agg #[.int .u16 (be2 l 0), .int .u16 (be2 l 2), .int .u32 (be4 l 4), .int .u32 (be4 l 8), .int .u8 (l.getD 13 0 % 64), .int .u16 (be2 l 14), .int .u16 (be2 l 18), .slice A5 ((l.take h).drop 20).length k5, .slice A6 (l.drop h).length k6]) hS6 rfl (by kernel_rfl) (by kernel_rfl) (by kernel_rfl) (fun _ _ _ h => h) (by kernel_rfl) (by intro _ _; go_simp) ?_
    simp only [Act.put, List.setIfInBounds_toArray, List.set_cons_zero, List.set_cons_succ]
    obtain ⟨old, hold, hold2⟩ := hS6.has
    refine tk_store (i := 25) (by kernel_rfl) rfl (by kernel_rfl) rfl rfl rfl hold tcp_info hold2 (by simp [Value.oneCell']) (hS6.store hold.setRow_same below_setRow' rfl) ?_
    have hS11 := hS6.store hold.setRow_same (cs := #[.int .u16 (be2 l 0), .int .u16 (be2 l 2), .int .u32 (be4 l 4), .int .u32 (be4 l 8), .int .u8 (l.getD 13 0 % 64), .int .u16 (be2 l 14), .int .u16 (be2 l 18), .slice A5 ((l.take h).drop 20).length k5, .slice A6 (l.drop h).length k6]) below_setRow' rfl
    simp only [Act.put, List.setIfInBounds_toArray, List.set_cons_zero, List.set_cons_succ]
    refine tk (i := 26) (.int .i64 0) hS11 rfl (by kernel_rfl) (by kernel_rfl) (by kernel_rfl) (fun _ _ _ h => h) (by kernel_rfl) (by intro _ _; exact rfl) ?_
    simp only [Act.put, List.setIfInBounds_toArray, List.set_cons_zero, List.set_cons_succ]
    refine wpAnyH_done (by kernel_rfl) ?_ _
    have hH4 := hold.setRow_same (cs' := #[.int .u16 (be2 l 0), .int .u16 (be2 l 2), .int .u32 (be4 l 4), .int .u32 (be4 l 8), .int .u8 (l.getD 13 0 % 64), .int .u16 (be2 l 14), .int .u16 (be2 l 18), .slice A5 ((l.take h).drop 20).length k5, .slice A6 (l.drop h).length k6])
    have ho7 := (ho5.setRow (g := w.heap.size) (cs := #[.int .u16 (be2 l 0), .int .u16 (be2 l 2), .int .u32 (be4 l 4), .int .u32 (be4 l 8), .int .u8 (l.getD 13 0 % 64), .int .u16 (be2 l 14), .int .u16 (be2 l 18), .slice A5 ((l.take h).drop 20).length k5, .slice A6 (l.drop h).length k6]) hS10.lt).more hS10.bel.size
    have ho8 := (ho6.setRow (g := w.heap.size) (cs := #[.int .u16 (be2 l 0), .int .u16 (be2 l 2), .int .u32 (be4 l 4), .int .u32 (be4 l 8), .int .u8 (l.getD 13 0 % 64), .int .u16 (be2 l 14), .int .u16 (be2 l 18), .slice A5 ((l.take h).drop 20).length k5, .slice A6 (l.drop h).length k6]) hS5.lt).more hS5.bel.size
    have hb4 := hS11.bel
    generalize W6.setRow w.heap.size #[.int .u16 (be2 l 0), .int .u16 (be2 l 2), .int .u32 (be4 l 4), .int .u32 (be4 l 8), .int .u8 (l.getD 13 0 % 64), .int .u16 (be2 l 14), .int .u16 (be2 l 18), .slice A5 ((l.take h).drop 20).length k5, .slice A6 (l.drop h).length k6] = W7 at hH4 ho7 ho8 hb4 ⊢
    clear ho5 ho6
    go_wp2
    exact bodyPost_ret (res_cell2 Try.results56 rfl (hH4.load (P := Try.prog) 26 Try.underlying26 rfl tcp_info) rfl) rfl ⟨⟨A5, k5, A6, k6⟩, rfl, hok, ho7, ho8, hb4⟩
    -- END 10
end Go.Proofs.Ytaobnbjkhgcmlaa
