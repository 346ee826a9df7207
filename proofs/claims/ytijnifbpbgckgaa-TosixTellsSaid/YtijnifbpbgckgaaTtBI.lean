/-
  Lemmas and walks for the row of TosixTells (part 35 of 39).
-/
import Derived.Test.YtijnifbpbgckgaaTtAF
import Derived.Test.YtijnifbpbgckgaaTtBH
set_option linter.unusedVariables false
set_option linter.unusedSimpArgs false
namespace Go.Proofs.Ytijnifbpbgckgaa
open Go.RowKit Go.Shelf

set_option maxRecDepth 100000 in
set_option maxHeartbeats 4000000 in
theorem rread_ok (part : Bool) (A : Option Addr) (c : Nat) (l : List Int) (w : World) (hy : By w.heap.size w A l.length c l) (he : pe4 part l = 0) :
    Calls Try.prog 89 #[.slice A l.length c, .bool part] w fun e w' => Told4p w.heap.size w' (of4 l) (pat4 (pe4 part l)) (pe4 part l) e ∧ Below w.heap.size w w' := by
  have hl := hy.rng
  have hV : Has (w.alloc (.cells z4cells 27)) w.heap.size (.cells z4cells 27 (0, 0)) := Has.newAt rfl
  have hB1 : Below w.heap.size w (w.alloc (.cells z4cells 27)) := (Below.refl _ _).alloc (Nat.le_refl _) _
  rw [he]
  obtain ⟨h20, h41, h1, h2, e43, e43', e44⟩ := pe4_zero he
  obtain ⟨b, off, rfl, hbl, -⟩ := hy.row.at_ (by omega)
  have d0 : (w.alloc (.cells z4cells 27)).cell? ⟨b, off, none⟩ = _ := cell_at4 hy hB1 (i := 0) (by omega)
  have r0 := getD_rng4 hl 0
  have hH : hl4 l = l.getD 0 0 % 16 * 4 := rfl
  obtain ⟨x0, hx0⟩ : ∃ x, l.getD 0 0 = x := ⟨_, rfl⟩
  rw [hx0] at d0 r0 hH
  unfold z4cells at d0
  have z0 : (0 : Int) < (l.length : Int) := by omega
  have h20' : (20 : Int) ≤ (l.length : Int) := by omega
  rw [hx0] at h41
  obtain ⟨k, hk⟩ : ∃ k : Nat, x0 % 16 * 4 = (k : Int) := ⟨(x0 % 16 * 4).toNat, by omega⟩
  rw [hk] at hH
  have hkb : k ≤ 60 := by omega
  rw [hH] at h1 h2 e43' e44
  rw [Int.toNat_natCast] at e44
  have d2 : (w.alloc (.cells z4cells 27)).cell? ⟨b, off + 2, none⟩ = _ := cell_at4 hy hB1 (i := 2) (by omega)
  have d3 : (w.alloc (.cells z4cells 27)).cell? ⟨b, off + 3, none⟩ = _ := cell_at4 hy hB1 (i := 3) (by omega)
  unfold z4cells at d2 d3
  have r2 := getD_rng4 hl 2
  have r3 := getD_rng4 hl 3
  have hT : tot4 l = l.getD 2 0 * 256 + l.getD 3 0 := rfl
  obtain ⟨x2, hx2⟩ : ∃ x, l.getD 2 0 = x := ⟨_, rfl⟩
  obtain ⟨x3, hx3⟩ : ∃ x, l.getD 3 0 = x := ⟨_, rfl⟩
  rw [hx2] at d2 r2 hT
  rw [hx3] at d3 r3 hT
  have z2 : (2 : Int) < (l.length : Int) := by omega
  have z3 : (3 : Int) < (l.length : Int) := by omega
  obtain ⟨hsl, yk⟩ := hy.to_ (P := Try.prog) 25 Try.underlying25 (by kernel_rfl) (k := k) (by omega)
  have yk := Lib.hid yk
  rw [hT] at e43 e43'
  have e44H := Lib.hid e44
  have hHH := Lib.hid hH
  have hx0H := Lib.hid hx0
  have hlen : l.length ≤ 65535 := by
    cases part
    · have := e43 rfl; omega
    · have := e43' rfl; omega
  clear e44 hH hx0 he hT
  obtain ⟨x1, hx1⟩ : ∃ x, l.getD 1 0 = x := ⟨_, rfl⟩
  have r1 := getD_rng4 hl 1
  rw [hx1] at r1
  have q1 : ∀ w', Below w.heap.size w w' → w'.cell? ⟨b, off + 1, none⟩ = some (.int .u8 x1) := fun w' h => by rw [← hx1]; exact cell_at4 hy h (by omega)
  obtain ⟨x4, hx4⟩ : ∃ x, l.getD 4 0 = x := ⟨_, rfl⟩
  have r4 := getD_rng4 hl 4
  rw [hx4] at r4
  have q4 : ∀ w', Below w.heap.size w w' → w'.cell? ⟨b, off + 4, none⟩ = some (.int .u8 x4) := fun w' h => by rw [← hx4]; exact cell_at4 hy h (by omega)
  obtain ⟨x5, hx5⟩ : ∃ x, l.getD 5 0 = x := ⟨_, rfl⟩
  have r5 := getD_rng4 hl 5
  rw [hx5] at r5
  have q5 : ∀ w', Below w.heap.size w w' → w'.cell? ⟨b, off + 5, none⟩ = some (.int .u8 x5) := fun w' h => by rw [← hx5]; exact cell_at4 hy h (by omega)
  obtain ⟨x6, hx6⟩ : ∃ x, l.getD 6 0 = x := ⟨_, rfl⟩
  have r6 := getD_rng4 hl 6
  rw [hx6] at r6
  have q6 : ∀ w', Below w.heap.size w w' → w'.cell? ⟨b, off + 6, none⟩ = some (.int .u8 x6) := fun w' h => by rw [← hx6]; exact cell_at4 hy h (by omega)
  obtain ⟨x7, hx7⟩ : ∃ x, l.getD 7 0 = x := ⟨_, rfl⟩
  have r7 := getD_rng4 hl 7
  rw [hx7] at r7
  have q7 : ∀ w', Below w.heap.size w w' → w'.cell? ⟨b, off + 7, none⟩ = some (.int .u8 x7) := fun w' h => by rw [← hx7]; exact cell_at4 hy h (by omega)
  obtain ⟨x8, hx8⟩ : ∃ x, l.getD 8 0 = x := ⟨_, rfl⟩
  have r8 := getD_rng4 hl 8
  rw [hx8] at r8
  have q8 : ∀ w', Below w.heap.size w w' → w'.cell? ⟨b, off + 8, none⟩ = some (.int .u8 x8) := fun w' h => by rw [← hx8]; exact cell_at4 hy h (by omega)
  obtain ⟨x9, hx9⟩ : ∃ x, l.getD 9 0 = x := ⟨_, rfl⟩
  have r9 := getD_rng4 hl 9
  rw [hx9] at r9
  have q9 : ∀ w', Below w.heap.size w w' → w'.cell? ⟨b, off + 9, none⟩ = some (.int .u8 x9) := fun w' h => by rw [← hx9]; exact cell_at4 hy h (by omega)
  obtain ⟨sa0, hsa0⟩ : ∃ x, l.getD 12 0 = x := ⟨_, rfl⟩
  obtain ⟨da0, hda0⟩ : ∃ x, l.getD 16 0 = x := ⟨_, rfl⟩
  obtain ⟨sa1, hsa1⟩ : ∃ x, l.getD 13 0 = x := ⟨_, rfl⟩
  obtain ⟨da1, hda1⟩ : ∃ x, l.getD 17 0 = x := ⟨_, rfl⟩
  obtain ⟨sa2, hsa2⟩ : ∃ x, l.getD 14 0 = x := ⟨_, rfl⟩
  obtain ⟨da2, hda2⟩ : ∃ x, l.getD 18 0 = x := ⟨_, rfl⟩
  obtain ⟨sa3, hsa3⟩ : ∃ x, l.getD 15 0 = x := ⟨_, rfl⟩
  obtain ⟨da3, hda3⟩ : ∃ x, l.getD 19 0 = x := ⟨_, rfl⟩
  obtain ⟨A12, m12, hm12, y12⟩ := hy.mid (P := Try.prog) 25 Try.underlying25 (by kernel_rfl) (k := 12) (m := 16) (by decide) (by omega)
  obtain ⟨A16, m16, hm16, y16⟩ := hy.mid (P := Try.prog) 25 Try.underlying25 (by kernel_rfl) (k := 16) (m := 20) (by decide) (by omega)
  obtain ⟨A20, m20, hm20, y20⟩ := hy.mid (P := Try.prog) 25 Try.underlying25 (by kernel_rfl) (k := 20) (m := k) (by omega) (by omega)
  have hm20 : ∀ w', (Instr.sliceAt 25 (.slice (some ⟨b, off, none⟩) l.length c) (some (.int .i64 20)) (some (.int .i64 (k : Int))) none).run Try.prog w' = .ok (.slice A20 (k - 20) m20) w' := hm20
  obtain ⟨Ab, mb, hmb, yb⟩ := hy.from_ (P := Try.prog) 25 Try.underlying25 (by kernel_rfl) (k := k) (by omega)
  have y12 : By w.heap.size w A12 4 m12 [sa0, sa1, sa2, sa3] := by
    rw [List.drop_take, take4 l 12 (by omega), hsa0, hsa1, hsa2, hsa3] at y12
    exact y12
  have y16 : By w.heap.size w A16 4 m16 [da0, da1, da2, da3] := by
    rw [List.drop_take, take4 l 16 (by omega), hda0, hda1, hda2, hda3] at y16
    exact y16
  obtain ⟨OL, hOL⟩ : ∃ L, (l.take k).drop 20 = L := ⟨_, rfl⟩
  obtain ⟨BL, hBL⟩ : ∃ L, l.drop k = L := ⟨_, rfl⟩
  rw [hOL] at y20
  rw [hBL] at yb
  have uo : OL = (of4 l).ol := by
    show OL = (l.drop 20).take ((hl4 l).toNat - 20)
    rw [hHH.out, Int.toNat_natCast, ← hOL, List.drop_take]
  have ub : BL = (of4 l).bl := by
    show BL = l.drop (hl4 l).toNat
    rw [hHH.out, Int.toNat_natCast, ← hBL]
  have uoH := Lib.hid uo
  have ubH := Lib.hid ub
  have lenO := Lib.hid y20.len
  have lenB := Lib.hid yb.len
  have hfin : ∀ (A1 : Option Addr) (k1 : Nat) (A2 : Option Addr) (k2 : Nat), v4 x1 (x4 * 256 + x5) (decide (x6 / 64 % 2 = 1)) (decide (x6 / 32 % 2 = 1)) (x6 % 32 * 256 + x7) x8 x9 sa0 sa1 sa2 sa3 da0 da1 da2 da3 A1 OL.length k1 A2 BL.length k2 = (of4 l).cells ⟨A1, k1, A2, k2⟩ := fun A1 k1 A2 k2 => by
    rw [uo, ub, ← hx1, ← hx4, ← hx5, ← hx6, ← hx7, ← hx8, ← hx9, ← hsa0, ← hsa1, ← hsa2, ← hsa3, ← hda0, ← hda1, ← hda2, ← hda3]
    rfl
  clear uo ub hOL hBL hx1 hx4 hx5 hx6 hx7 hx8 hx9 hsa0 hsa1 hsa2 hsa3 hda0 hda1 hda2 hda3
  go_enter Try.func89, Try.ntmps89
  go_wp2
  go_quiet (fail)
  have hV := hV.drewN (n := nq)
  have hB1 := hB1.trans (below_drewN _ _ nq)
  have hsz : ((w.alloc (.cells z4cells 27)).drewN nq).heap.size = w.heap.size + 1 := by simp [World.drewN]
  unfold z4cells at hV hB1 hsz
  generalize (w.alloc (.cells #[.int .u8 0, .int .u16 0, .bool false, .bool false, .int .i64 0, .int .u8 0, .int .u8 0, .int .u8 0, .int .u8 0, .int .u8 0, .int .u8 0, .int .u8 0, .int .u8 0, .int .u8 0, .int .u8 0, .slice none 0 0, .slice none 0 0] 27)).drewN nq = W at hV hB1 hsz ⊢
  obtain ⟨T, hT⟩ : ∃ T, x2 * 256 + x3 = T := ⟨_, rfl⟩
  rw [hT] at e43 e43'
  simp only [hT]
  clear hT d0 d2 d3
  cases part
  case' false =>
    have hn := e43 rfl
    have hnk : ¬ T < (k : Int) := by omega
    have hnl : ¬ T < (l.length : Int) := by omega
    have hng : ¬ (l.length : Int) < T := by omega
    clear e43 e43'
    go_wp2_with fail
    refine (rfold_one (some ⟨b, off, none⟩) c k (l.take k) yk.out.len.symm (Has.newAt (by rw [hsz])) (by rw [yk.out.len]; exact (((yk.out.below hB1 (Nat.le_refl _)).alloc (by omega) _).more (by simp; omega))) (by rw [yk.out.len]; omega)).mono ?_
    rintro e w4 ⟨q, rfl, hq, hb⟩
    have hb : Below W.heap.size W w4 := ((Below.refl _ _).alloc (Nat.le_refl _) _).trans (hb.mono (by simp))
    have hV := hV.below hb hV.lt
    have hB1 := hB1.trans (hb.mono (by omega))
    have hq : (q != 65535) = false := by rw [hq.out, e44H.out trivial]; rfl
    clear hb
    go_wp2_with fail
  case' true =>
    have hn := e43' rfl
    have hnk : ¬ T < (k : Int) := by omega
    have hnl : ¬ T < (l.length : Int) := by omega
    clear e43 e43'
    obtain ⟨w4, rfl⟩ : ∃ w4, w4 = W := ⟨_, rfl⟩
    go_wp2_with fail
  all_goals
    have hgr : w.heap.size < w4.heap.size := hV.lt
    have hB1 := hB1.trans (below_drew _ _)
    have hV := hV.drew
    refine wp_region_held_drew (S := fun w' => Below w.heap.size w w') (by kernel_rfl) hB1 (fun hS => ?_)
    have hgr : w.heap.size < w4.drew.heap.size := hgr
    generalize w4.drew = w5 at hV hS hgr ⊢
    clear hB1
    refine te 0 (.slice (some ⟨b, off, none⟩) l.length c) hS rfl (by intro _ _; exact rfl) ?_
    simp only [lay]
    refine te 1 (.pointer (some ⟨b, off + 1, none⟩)) hS rfl (by intro _ _; exact ex_index (by exact rfl) Try.underlying25 (by kernel_rfl) (by exact rfl) (by exact rfl) (by omega)) ?_
    simp only [lay]
    refine te 2 (.int .u8 x1) hS rfl (by intro _ h; exact ex_cell (by exact rfl) Try.underlying5 rfl (by exact rfl) (q1 _ h)) ?_
    simp only [lay]
    refine te 3 (.slice (some ⟨b, off, none⟩) l.length c) hS rfl (by intro _ _; exact rfl) ?_
    simp only [lay]
    refine te 4 (.pointer (some ⟨b, off + 4, none⟩)) hS rfl (by intro _ _; exact ex_index (by exact rfl) Try.underlying25 (by kernel_rfl) (by exact rfl) (by exact rfl) (by omega)) ?_
    simp only [lay]
    refine te 5 (.int .u8 x4) hS rfl (by intro _ h; exact ex_cell (by exact rfl) Try.underlying5 rfl (by exact rfl) (q4 _ h)) ?_
    simp only [lay]
    refine te 6 (.int .u16 x4) hS rfl (by intro _ _; exact ex_conv (by exact rfl) (by exact rfl) (conv_u16 _ _ _ _ (by kernel_rfl) Try.underlying22 (by omega) (by omega) _)) ?_
    simp only [lay]
    refine te 7 (.int .u16 (x4 * 256)) hS rfl (by intro _ _; exact ex_bin (by exact rfl) (by exact rfl) (by exact rfl) (by decide) (b_shl8_u16 _ _ r4 _)) ?_
    simp only [lay]
    refine te 8 (.slice (some ⟨b, off, none⟩) l.length c) hS rfl (by intro _ _; exact rfl) ?_
    simp only [lay]
    refine te 9 (.pointer (some ⟨b, off + 5, none⟩)) hS rfl (by intro _ _; exact ex_index (by exact rfl) Try.underlying25 (by kernel_rfl) (by exact rfl) (by exact rfl) (by omega)) ?_
    simp only [lay]
    refine te 10 (.int .u8 x5) hS rfl (by intro _ h; exact ex_cell (by exact rfl) Try.underlying5 rfl (by exact rfl) (q5 _ h)) ?_
    simp only [lay]
    refine te 11 (.int .u16 x5) hS rfl (by intro _ _; exact ex_conv (by exact rfl) (by exact rfl) (conv_u16 _ _ _ _ (by kernel_rfl) Try.underlying22 (by omega) (by omega) _)) ?_
    simp only [lay]
    refine te 12 (.int .u16 (x4 * 256 + x5)) hS rfl (by intro _ _; exact ex_bin (by exact rfl) (by exact rfl) (by exact rfl) (by decide) (b_or_u16 _ _ _ _ (or_u16 8 (by omega) (by omega) (by omega) (by omega) (by omega) (by omega)) _)) ?_
    simp only [lay]
    refine te 13 (.slice (some ⟨b, off, none⟩) l.length c) hS rfl (by intro _ _; exact rfl) ?_
    simp only [lay]
    refine te 14 (.pointer (some ⟨b, off + 6, none⟩)) hS rfl (by intro _ _; exact ex_index (by exact rfl) Try.underlying25 (by kernel_rfl) (by exact rfl) (by exact rfl) (by omega)) ?_
    simp only [lay]
    refine te 15 (.int .u8 x6) hS rfl (by intro _ h; exact ex_cell (by exact rfl) Try.underlying5 rfl (by exact rfl) (q6 _ h)) ?_
    simp only [lay]
    refine te 16 (.int .u8 (bits .and .u8 x6 64)) hS rfl (by intro _ _; exact ex_bin (by exact rfl) (by exact rfl) (by exact rfl) (by decide) (b_and_u8 _ _ _ _ rfl _)) ?_
    simp only [lay]
    refine te 17 (.bool (decide (x6 / 64 % 2 = 1))) hS rfl (by intro _ _; exact (ex_neq_int (by exact rfl) (by exact rfl) (by exact rfl)).trans (by rw [df_bit r6])) ?_
    simp only [lay]
    refine te 18 (.slice (some ⟨b, off, none⟩) l.length c) hS rfl (by intro _ _; exact rfl) ?_
    simp only [lay]
    refine te 19 (.pointer (some ⟨b, off + 6, none⟩)) hS rfl (by intro _ _; exact ex_index (by exact rfl) Try.underlying25 (by kernel_rfl) (by exact rfl) (by exact rfl) (by omega)) ?_
    simp only [lay]
    refine te 20 (.int .u8 x6) hS rfl (by intro _ h; exact ex_cell (by exact rfl) Try.underlying5 rfl (by exact rfl) (q6 _ h)) ?_
    simp only [lay]
    refine te 21 (.int .u8 (bits .and .u8 x6 32)) hS rfl (by intro _ _; exact ex_bin (by exact rfl) (by exact rfl) (by exact rfl) (by decide) (b_and_u8 _ _ _ _ rfl _)) ?_
    simp only [lay]
    refine te 22 (.bool (decide (x6 / 32 % 2 = 1))) hS rfl (by intro _ _; exact (ex_neq_int (by exact rfl) (by exact rfl) (by exact rfl)).trans (by rw [mf_bit r6])) ?_
    simp only [lay]
    refine te 23 (.slice (some ⟨b, off, none⟩) l.length c) hS rfl (by intro _ _; exact rfl) ?_
    simp only [lay]
    refine te 24 (.pointer (some ⟨b, off + 6, none⟩)) hS rfl (by intro _ _; exact ex_index (by exact rfl) Try.underlying25 (by kernel_rfl) (by exact rfl) (by exact rfl) (by omega)) ?_
    simp only [lay]
    refine te 25 (.int .u8 x6) hS rfl (by intro _ h; exact ex_cell (by exact rfl) Try.underlying5 rfl (by exact rfl) (q6 _ h)) ?_
    simp only [lay]
    refine te 26 (.int .u8 (x6 % 32)) hS rfl (by intro _ _; exact ex_bin (by exact rfl) (by exact rfl) (by exact rfl) (by decide) (b_rem32 _ _ r6 _)) ?_
    simp only [lay]
    refine te 27 (.int .i64 (x6 % 32)) hS rfl (by intro _ _; exact ex_conv (by exact rfl) (by exact rfl) (conv_i64 _ _ _ _ (by kernel_rfl) Try.underlying3 (by omega) _)) ?_
    simp only [lay]
    refine te 28 (.int .i64 (x6 % 32 * 256)) hS rfl (by intro _ _; exact ex_bin (by exact rfl) (by exact rfl) (by exact rfl) (by decide) (b_mul256 _ _ (by omega) _)) ?_
    simp only [lay]
    refine te 29 (.slice (some ⟨b, off, none⟩) l.length c) hS rfl (by intro _ _; exact rfl) ?_
    simp only [lay]
    refine te 30 (.pointer (some ⟨b, off + 7, none⟩)) hS rfl (by intro _ _; exact ex_index (by exact rfl) Try.underlying25 (by kernel_rfl) (by exact rfl) (by exact rfl) (by omega)) ?_
    simp only [lay]
    refine te 31 (.int .u8 x7) hS rfl (by intro _ h; exact ex_cell (by exact rfl) Try.underlying5 rfl (by exact rfl) (q7 _ h)) ?_
    simp only [lay]
    refine te 32 (.int .i64 x7) hS rfl (by intro _ _; exact ex_conv (by exact rfl) (by exact rfl) (conv_i64 _ _ _ _ (by kernel_rfl) Try.underlying3 (by omega) _)) ?_
    simp only [lay]
    refine te 33 (.int .i64 (x6 % 32 * 256 + x7)) hS rfl (by intro _ _; exact ex_bin (by exact rfl) (by exact rfl) (by exact rfl) (by decide) (add_i64 _ _ _ (by omega) _)) ?_
    simp only [lay]
    refine te 34 (.slice (some ⟨b, off, none⟩) l.length c) hS rfl (by intro _ _; exact rfl) ?_
    simp only [lay]
    refine te 35 (.pointer (some ⟨b, off + 8, none⟩)) hS rfl (by intro _ _; exact ex_index (by exact rfl) Try.underlying25 (by kernel_rfl) (by exact rfl) (by exact rfl) (by omega)) ?_
    simp only [lay]
    refine te 36 (.int .u8 x8) hS rfl (by intro _ h; exact ex_cell (by exact rfl) Try.underlying5 rfl (by exact rfl) (q8 _ h)) ?_
    simp only [lay]
    refine te 37 (.slice (some ⟨b, off, none⟩) l.length c) hS rfl (by intro _ _; exact rfl) ?_
    simp only [lay]
    refine te 38 (.pointer (some ⟨b, off + 9, none⟩)) hS rfl (by intro _ _; exact ex_index (by exact rfl) Try.underlying25 (by kernel_rfl) (by exact rfl) (by exact rfl) (by omega)) ?_
    simp only [lay]
    refine te 39 (.int .u8 x9) hS rfl (by intro _ h; exact ex_cell (by exact rfl) Try.underlying5 rfl (by exact rfl) (q9 _ h)) ?_
    simp only [lay]
    refine te 40 (.agg #[.int .u8 x1, .int .u16 (x4 * 256 + x5), .bool (decide (x6 / 64 % 2 = 1)), .bool (decide (x6 / 32 % 2 = 1)), .int .i64 (x6 % 32 * 256 + x7), .int .u8 x8, .int .u8 x9, .int .u8 0, .int .u8 0, .int .u8 0, .int .u8 0, .int .u8 0, .int .u8 0, .int .u8 0, .int .u8 0, .slice none 0 0, .slice none 0 0]) hS rfl (by intro _ _; go_simp) ?_
    simp only [lay]
    refine tk_one (by kernel_rfl) (op_alloc (i := 41) z4cells rfl (by kernel_rfl) rfl (by kernel_rfl) (fun _ hb => hS.trans (hb.mono hS.size)) ?_)
    rintro gv w6 hV6 hgv hw6 hb6 hS6
    simp only [lay]
    have hgvB : w.heap.size ≤ gv := Nat.le_trans hS.size hgv
    have hVr := hV.below hb6 hV.lt
    have hgn : w.heap.size ≠ gv := by have := hV.lt; omega
    have hSr := hS6.trans (below_setRow (Below.refl w.heap.size w6) hgvB (#[.int .u8 x1, .int .u16 (x4 * 256 + x5), .bool (decide (x6 / 64 % 2 = 1)), .bool (decide (x6 / 32 % 2 = 1)), .int .i64 (x6 % 32 * 256 + x7), .int .u8 x8, .int .u8 x9, .int .u8 0, .int .u8 0, .int .u8 0, .int .u8 0, .int .u8 0, .int .u8 0, .int .u8 0, .int .u8 0, .slice none 0 0, .slice none 0 0]))
    refine tk_store (i := 42) (by kernel_rfl) rfl (by kernel_rfl) rfl rfl rfl hV6 v4_info rfl (by simp [Value.oneCell']) hSr ?_
    simp only [lay]
    have hV : Has (w6.setRow gv (#[.int .u8 x1, .int .u16 (x4 * 256 + x5), .bool (decide (x6 / 64 % 2 = 1)), .bool (decide (x6 / 32 % 2 = 1)), .int .i64 (x6 % 32 * 256 + x7), .int .u8 x8, .int .u8 x9, .int .u8 0, .int .u8 0, .int .u8 0, .int .u8 0, .int .u8 0, .int .u8 0, .int .u8 0, .int .u8 0, .slice none 0 0, .slice none 0 0])) gv (.cells (v4 x1 (x4 * 256 + x5) (decide (x6 / 64 % 2 = 1)) (decide (x6 / 32 % 2 = 1)) (x6 % 32 * 256 + x7) x8 x9 0 0 0 0 0 0 0 0 none 0 0 none 0 0) 27 (0, 0)) := hV6.setRow_same
    have hVr := hVr.setRow_other (cs' := #[.int .u8 x1, .int .u16 (x4 * 256 + x5), .bool (decide (x6 / 64 % 2 = 1)), .bool (decide (x6 / 32 % 2 = 1)), .int .i64 (x6 % 32 * 256 + x7), .int .u8 x8, .int .u8 x9, .int .u8 0, .int .u8 0, .int .u8 0, .int .u8 0, .int .u8 0, .int .u8 0, .int .u8 0, .int .u8 0, .slice none 0 0, .slice none 0 0]) hgn
    have hszg : gv < (w6.setRow gv (#[.int .u8 x1, .int .u16 (x4 * 256 + x5), .bool (decide (x6 / 64 % 2 = 1)), .bool (decide (x6 / 32 % 2 = 1)), .int .i64 (x6 % 32 * 256 + x7), .int .u8 x8, .int .u8 x9, .int .u8 0, .int .u8 0, .int .u8 0, .int .u8 0, .int .u8 0, .int .u8 0, .int .u8 0, .int .u8 0, .slice none 0 0, .slice none 0 0])).heap.size := hV.lt
    refine wpAnyH_done (by kernel_rfl) ?_ _
    clear hS hS6 hb6 hV6
    generalize w6.setRow gv (#[.int .u8 x1, .int .u16 (x4 * 256 + x5), .bool (decide (x6 / 64 % 2 = 1)), .bool (decide (x6 / 32 % 2 = 1)), .int .i64 (x6 % 32 * 256 + x7), .int .u8 x8, .int .u8 x9, .int .u8 0, .int .u8 0, .int .u8 0, .int .u8 0, .int .u8 0, .int .u8 0, .int .u8 0, .int .u8 0, .slice none 0 0, .slice none 0 0]) = w7 at hV hVr hSr hszg ⊢
    clear q1 q4 q5 q6 q7 q8 q9
    go_wp2_with fail
    have hSr := hSr.trans (below_drew _ _)
    have hV := hV.drew
    have hVr := hVr.drew
    refine wp_region_held_drew (S := fun w' => Below w.heap.size w w') (by kernel_rfl) hSr (fun hS => ?_)
    generalize w7.drew = w7d at hV hVr hS ⊢
    clear hSr
    refine te 0 (.pointer (some ⟨gv, 7, none⟩)) hS rfl (by intro _ _; exact ex_field 7 3 (by exact rfl) Try.underlying27 (by exact rfl) rfl (by kernel_rfl) (by exact rfl)) ?_
    simp only [lay]
    refine te 1 (.slice (some ⟨gv, 7, none⟩) 4 4) hS rfl (by intro _ _; exact ex_arr (by exact rfl) Try.underlying24 (by kernel_rfl) (by exact rfl)) ?_
    simp only [lay]
    refine te 2 (.slice (some ⟨b, off, none⟩) l.length c) hS rfl (by intro _ _; exact rfl) ?_
    simp only [lay]
    refine te 3 (.slice A12 4 m12) hS rfl (by intro w' _; exact ex_slice (by exact rfl) (by exact rfl) (hm12 w')) ?_
    simp only [lay]
    have hSr := hS.trans (below_setRow (Below.refl w.heap.size w7d) hgvB (v4 x1 (x4 * 256 + x5) (decide (x6 / 64 % 2 = 1)) (decide (x6 / 32 % 2 = 1)) (x6 % 32 * 256 + x7) x8 x9 sa0 sa1 sa2 sa3 0 0 0 0 none 0 0 none 0 0))
    refine tk_copy (i := 4) (.tmp 118) (.tmp 120) 25 25 (by kernel_rfl) rfl (by kernel_rfl) rfl Try.underlying25 (by kernel_rfl) (g := gv) (off := 7) (n := 4) rfl rfl (y12.below hS (Nat.le_refl _)) rfl (by decide) hV (show 7 + 4 ≤ 17 by decide) (new := v4 x1 (x4 * 256 + x5) (decide (x6 / 64 % 2 = 1)) (decide (x6 / 32 % 2 = 1)) (x6 % 32 * 256 + x7) x8 x9 sa0 sa1 sa2 sa3 0 0 0 0 none 0 0 none 0 0) rfl hSr ?_
    simp only [lay]
    have hV : Has (w7d.setRow gv (v4 x1 (x4 * 256 + x5) (decide (x6 / 64 % 2 = 1)) (decide (x6 / 32 % 2 = 1)) (x6 % 32 * 256 + x7) x8 x9 sa0 sa1 sa2 sa3 0 0 0 0 none 0 0 none 0 0)) gv (.cells (v4 x1 (x4 * 256 + x5) (decide (x6 / 64 % 2 = 1)) (decide (x6 / 32 % 2 = 1)) (x6 % 32 * 256 + x7) x8 x9 sa0 sa1 sa2 sa3 0 0 0 0 none 0 0 none 0 0) 27 (0, 0)) := hV.setRow_same
    have hVr := hVr.setRow_other (cs' := v4 x1 (x4 * 256 + x5) (decide (x6 / 64 % 2 = 1)) (decide (x6 / 32 % 2 = 1)) (x6 % 32 * 256 + x7) x8 x9 sa0 sa1 sa2 sa3 0 0 0 0 none 0 0 none 0 0) hgn
    refine wpAnyH_done (by kernel_rfl) ?_ _
    clear hS
    generalize w7d.setRow gv (v4 x1 (x4 * 256 + x5) (decide (x6 / 64 % 2 = 1)) (decide (x6 / 32 % 2 = 1)) (x6 % 32 * 256 + x7) x8 x9 sa0 sa1 sa2 sa3 0 0 0 0 none 0 0 none 0 0) = w8 at hV hVr hSr ⊢
    go_wp2_with fail
    have hSr := hSr.trans (below_drew _ _)
    have hV := hV.drew
    have hVr := hVr.drew
    refine wp_region_held_drew (S := fun w' => Below w.heap.size w w') (by kernel_rfl) hSr (fun hS => ?_)
    generalize w8.drew = w8d at hV hVr hS ⊢
    clear hSr
    refine te 0 (.pointer (some ⟨gv, 11, none⟩)) hS rfl (by intro _ _; exact ex_field 11 3 (by exact rfl) Try.underlying27 (by exact rfl) rfl (by kernel_rfl) (by exact rfl)) ?_
    simp only [lay]
    refine te 1 (.slice (some ⟨gv, 11, none⟩) 4 4) hS rfl (by intro _ _; exact ex_arr (by exact rfl) Try.underlying24 (by kernel_rfl) (by exact rfl)) ?_
    simp only [lay]
    refine te 2 (.slice (some ⟨b, off, none⟩) l.length c) hS rfl (by intro _ _; exact rfl) ?_
    simp only [lay]
    refine te 3 (.slice A16 4 m16) hS rfl (by intro w' _; exact ex_slice (by exact rfl) (by exact rfl) (hm16 w')) ?_
    simp only [lay]
    have hSr := hS.trans (below_setRow (Below.refl w.heap.size w8d) hgvB (v4 x1 (x4 * 256 + x5) (decide (x6 / 64 % 2 = 1)) (decide (x6 / 32 % 2 = 1)) (x6 % 32 * 256 + x7) x8 x9 sa0 sa1 sa2 sa3 da0 da1 da2 da3 none 0 0 none 0 0))
    refine tk_copy (i := 4) (.tmp 123) (.tmp 125) 25 25 (by kernel_rfl) rfl (by kernel_rfl) rfl Try.underlying25 (by kernel_rfl) (g := gv) (off := 11) (n := 4) rfl rfl (y16.below hS (Nat.le_refl _)) rfl (by decide) hV (show 11 + 4 ≤ 17 by decide) (new := v4 x1 (x4 * 256 + x5) (decide (x6 / 64 % 2 = 1)) (decide (x6 / 32 % 2 = 1)) (x6 % 32 * 256 + x7) x8 x9 sa0 sa1 sa2 sa3 da0 da1 da2 da3 none 0 0 none 0 0) rfl hSr ?_
    simp only [lay]
    have hV : Has (w8d.setRow gv (v4 x1 (x4 * 256 + x5) (decide (x6 / 64 % 2 = 1)) (decide (x6 / 32 % 2 = 1)) (x6 % 32 * 256 + x7) x8 x9 sa0 sa1 sa2 sa3 da0 da1 da2 da3 none 0 0 none 0 0)) gv (.cells (v4 x1 (x4 * 256 + x5) (decide (x6 / 64 % 2 = 1)) (decide (x6 / 32 % 2 = 1)) (x6 % 32 * 256 + x7) x8 x9 sa0 sa1 sa2 sa3 da0 da1 da2 da3 none 0 0 none 0 0) 27 (0, 0)) := hV.setRow_same
    have hVr := hVr.setRow_other (cs' := v4 x1 (x4 * 256 + x5) (decide (x6 / 64 % 2 = 1)) (decide (x6 / 32 % 2 = 1)) (x6 % 32 * 256 + x7) x8 x9 sa0 sa1 sa2 sa3 da0 da1 da2 da3 none 0 0 none 0 0) hgn
    refine wpAnyH_done (by kernel_rfl) ?_ _
    clear hS
    generalize w8d.setRow gv (v4 x1 (x4 * 256 + x5) (decide (x6 / 64 % 2 = 1)) (decide (x6 / 32 % 2 = 1)) (x6 % 32 * 256 + x7) x8 x9 sa0 sa1 sa2 sa3 da0 da1 da2 da3 none 0 0 none 0 0) = w9 at hV hVr hSr ⊢
    have hgr9 := hVr.lt
    have hgv9 := hV.lt
    have y20' := ((y20.below hSr (Nat.le_refl _)).more hSr.size).alloc (Nat.le_refl _) (.cells #[] 5)
    go_wp2_with (first | (at_builtin; refine wpList_appB _ rfl _ _ _ rfl Try.underlying25 info8 w9.heap.size _ _ rfl (OwnB.made w9 w9.heap.size (Nat.le_refl _)) _ A20 (k - 20) m20 OL rfl y20' (by show 0 + (k - 20) ≤ _; omega) (by simp) ?_; intro v' w10 own hg hat; have hbel := below_app (OwnB.made w9 w9.heap.size (Nat.le_refl _)) hg (by simp); rw [List.nil_append] at own; obtain ⟨A21, k21, rfl, _⟩ := own_shape own.own; clear hat hg; have hb10 := (((Below.refl _ _).alloc (Nat.le_refl _) _).trans hbel : Below w9.heap.size w9 w10); clear hbel; have hV := hV.below hb10 hV.lt; have hVr := hVr.below hb10 hVr.lt; have c15 := hV.cell 15 (v := .slice none 0 0) rfl; have f15 := hV.free 15) | (at_builtin; have hVr := hVr.setCell_other hgn 15 (.slice A21 OL.length k21); have hS15 := below_setCell (hSr.trans (hb10.mono hSr.size)) hgvB 15 (.slice A21 OL.length k21); have hV : Has (w10.setCell ⟨gv, 15, none⟩ (.slice A21 OL.length k21)) gv (.cells (v4 x1 (x4 * 256 + x5) (decide (x6 / 64 % 2 = 1)) (decide (x6 / 32 % 2 = 1)) (x6 % 32 * 256 + x7) x8 x9 sa0 sa1 sa2 sa3 da0 da1 da2 da3 A21 OL.length k21 none 0 0) 27 (0, 0)) := hV.setCell 15 (.slice A21 OL.length k21); have o21 := own.setCell hgv9 15 (.slice A21 OL.length k21); clear own c15 f15; have hgv11 := hV.lt; have hgr11 := hVr.lt; have hmade := (OwnB.madeAt (w := (w10.setCell ⟨gv, 15, none⟩ (.slice A21 OL.length k21))) (base := (w10.setCell ⟨gv, 15, none⟩ (.slice A21 OL.length k21)).heap.size) (g := w10.heap.size) (by simp [World.setCell]) (Nat.le_refl _)); have yb' := ((yb.below hS15 (Nat.le_refl _)).more hS15.size).alloc (Nat.le_refl _) (.cells #[] 5); refine wpList_appB _ rfl _ _ _ rfl Try.underlying25 info8 (w10.setCell ⟨gv, 15, none⟩ (.slice A21 OL.length k21)).heap.size _ _ rfl hmade _ Ab (l.length - k) mb BL rfl yb' (by show 0 + (l.length - k) ≤ _; omega) (by simp) ?_; intro v' w12 own hg hat; have hbel := below_app hmade hg (by simp); rw [List.nil_append] at own; obtain ⟨A22, k22, rfl, _⟩ := own_shape own.own; clear hat hg; have hb12 := (((Below.refl _ _).alloc (Nat.le_refl _) _).trans hbel : Below (w10.setCell ⟨gv, 15, none⟩ (.slice A21 OL.length k21)).heap.size (w10.setCell ⟨gv, 15, none⟩ (.slice A21 OL.length k21)) w12); clear hbel; have hV := hV.below hb12 hV.lt; have hVr := hVr.below hb12 hVr.lt; have c16 := hV.cell 16 (v := .slice none 0 0) rfl; have f16 := hV.free 16; have hV2 : Has (w12.setCell ⟨gv, 16, none⟩ (.slice A22 BL.length k22)) gv (.cells (v4 x1 (x4 * 256 + x5) (decide (x6 / 64 % 2 = 1)) (decide (x6 / 32 % 2 = 1)) (x6 % 32 * 256 + x7) x8 x9 sa0 sa1 sa2 sa3 da0 da1 da2 da3 A21 OL.length k21 A22 BL.length k22) 27 (0, 0)) := hV.setCell 16 (.slice A22 BL.length k22); have hVr2 := hVr.setCell_other hgn 16 (.slice A22 BL.length k22)) | (refine wpList_load_row rfl 27 (.tmp 9) rfl gv rfl 27 (v4 x1 (x4 * 256 + x5) (decide (x6 / 64 % 2 = 1)) (decide (x6 / 32 % 2 = 1)) (x6 % 32 * 256 + x7) x8 x9 sa0 sa1 sa2 sa3 da0 da1 da2 da3 A21 OL.length k21 A22 BL.length k22) (0, 0) _ hV2 Try.underlying27 rfl v4_info ?_) | (refine wpList_store_row rfl 27 (.tmp 4) (.tmp 139) rfl w.heap.size _ rfl rfl 27 _ hVr2 v4_info rfl (by simp [v4, Value.oneCell']) ?_))
    have hSf := (below_setCell (hS15.trans (hb12.mono hS15.size)) hgvB 16 (.slice A22 BL.length k22)).trans (below_setRow' (g := w.heap.size) (cs := v4 x1 (x4 * 256 + x5) (decide (x6 / 64 % 2 = 1)) (decide (x6 / 32 % 2 = 1)) (x6 % 32 * 256 + x7) x8 x9 sa0 sa1 sa2 sa3 da0 da1 da2 da3 A21 OL.length k21 A22 BL.length k22))
    have hof := of4_ok hl
    have h911 : w.heap.size ≤ w9.heap.size := hSr.size
    have h911' : w.heap.size ≤ (w10.setCell ⟨gv, 15, none⟩ (.slice A21 OL.length k21)).heap.size := hS15.size
    have p21 := ((((o21.below hb12).setCell hgv9 16 (.slice A22 BL.length k22)).setRow hgr9 (cs := v4 x1 (x4 * 256 + x5) (decide (x6 / 64 % 2 = 1)) (decide (x6 / 32 % 2 = 1)) (x6 % 32 * 256 + x7) x8 x9 sa0 sa1 sa2 sa3 da0 da1 da2 da3 A21 OL.length k21 A22 BL.length k22))).more h911
    have p22 := ((own.setCell hgv11 16 (.slice A22 BL.length k22)).setRow hgr11 (cs := v4 x1 (x4 * 256 + x5) (decide (x6 / 64 % 2 = 1)) (decide (x6 / 32 % 2 = 1)) (x6 % 32 * 256 + x7) x8 x9 sa0 sa1 sa2 sa3 da0 da1 da2 da3 A21 OL.length k21 A22 BL.length k22)).more h911'
    have hEq := hfin A21 k21 A22 k22
    have hLd := hVr2.setRow_same (cs' := v4 x1 (x4 * 256 + x5) (decide (x6 / 64 % 2 = 1)) (decide (x6 / 32 % 2 = 1)) (x6 % 32 * 256 + x7) x8 x9 sa0 sa1 sa2 sa3 da0 da1 da2 da3 A21 OL.length k21 A22 BL.length k22)
    rw [hEq] at hLd hSf p21 p22
    refine bodyPost_ret (res_cell3 Try.results89 rfl (hLd.load (P := Try.prog) 27 Try.underlying27 rfl v4_info) rfl rfl) rfl ⟨⟨⟨A21, k21, A22, k22⟩, 0, 0, rfl, Lib.hid rfl, Lib.hid rfl, hof, ?_, ?_⟩, hSf⟩
    · rw [← uoH.out]
      exact p21
    · rw [← ubH.out]
      exact p22

theorem rread_any (part : Bool) (A : Option Addr) (c : Nat) (l : List Int) (w : World) (hy : By w.heap.size w A l.length c l) :
    Calls Try.prog 89 #[.slice A l.length c, .bool part] w fun e w' => Told4p w.heap.size w' (got4 part l) (pat4 (pe4 part l)) (pe4 part l) e ∧ Below w.heap.size w w' := by
  by_cases he : pe4 part l = 0
  · have hgot : got4 part l = of4 l := by unfold got4; rw [if_pos he]
    rw [hgot]
    exact rread_ok part A c l w hy he
  · have hgot : got4 part l = zero4 := by unfold got4; rw [if_neg he]
    rw [hgot]
    exact rread_bad part A c l w hy he
theorem rpart4_any (A : Option Addr) (c : Nat) (l : List Int) (w : World) (hy : By w.heap.size w A l.length c l) :
    Calls Try.prog 56 #[.slice A l.length c] w fun e w' => Told4p w.heap.size w' (got4 true l) (pat4 (pe4 true l)) (pe4 true l) e ∧ Below w.heap.size w w' := by
  have hV : Has (w.alloc (.cells z4cells 27)) w.heap.size (.cells z4cells 27 (0, 0)) := Has.newAt rfl
  have hB : Below w.heap.size w (w.alloc (.cells z4cells 27)) := (Below.refl _ _).alloc (Nat.le_refl _) _
  have hc := Lib.hid ((rread_any true) A c l (w.alloc (.cells z4cells 27)) ((hy.below hB (Nat.le_refl _)).more hB.size))
  go_enter Try.func56, Try.ntmps56
  go_wp2_with fail
  refine hc.out.mono ?_
  rintro e w1 ⟨⟨p, a, s, rfl, h1, h2, h3⟩, hb⟩
  have hV := hV.below hb hV.lt
  have hlt : w.heap.size < (w.alloc (.cells z4cells 27)).heap.size := by simp
  clear hc
  go_wp2_with (refine wpList_store_row rfl 27 (.tmp 2) (.tmp 7) rfl w.heap.size _ rfl rfl 27 _ hV v4_info rfl (by simp [D4.cells, Value.oneCell']) ?_)
  exact bodyPost_ret (res_cell3 Try.results56 rfl (hV.setRow_same.load (P := Try.prog) 27 Try.underlying27 rfl v4_info) rfl rfl) rfl
    ⟨⟨p, a, s, rfl, h1, h2, h3.ok, (h3.opt.setRow hlt).more hB.size, (h3.body.setRow hlt).more hB.size⟩, hB.trans ((hb.mono hB.size).trans below_setRow')⟩
end Go.Proofs.Ytijnifbpbgckgaa
