/-
  Lemmas and walks for the row of TofourTells (part 22 of 37).
-/
import Derived.Test.YtjnphelfloiadaaFtAI
import Derived.Test.YtjnphelfloiadaaFtAU
set_option linter.unusedVariables false
set_option linter.unusedSimpArgs false
namespace Go.Proofs.Ytjnphelfloiadaa
open Go.RowKit Go.Shelf

set_option maxRecDepth 100000 in
set_option maxHeartbeats 16000000 in
theorem rparse6_false (A : Option Addr) (c : Nat) (l : List Int) (w : World) (hy : By w.heap.size w A l.length c l) :
  Calls Try.prog 84 #[.slice A l.length c, .bool false] w fun e w' => Told6 w.heap.size w' (got6 false l) ((g6 false l).pat : Int) (g6 false l).err e ∧ Below w.heap.size w w' := by
 obtain ⟨N, hN⟩ : ∃ N, l.length = N := ⟨_, rfl⟩
 rw [hN] at hy ⊢
 have hlH := Lib.hid hN
 obtain ⟨W1, hW1⟩ : ∃ W, w.alloc (.cells #[.int .u8 0, .int .u32 0, .int .u8 0, .int .u8 0, .int .u8 0, .int .u8 0, .int .u8 0, .int .u8 0, .int .u8 0, .int .u8 0, .int .u8 0, .int .u8 0, .int .u8 0, .int .u8 0, .int .u8 0, .int .u8 0, .int .u8 0, .int .u8 0, .int .u8 0, .int .u8 0, .int .u8 0, .int .u8 0, .int .u8 0, .int .u8 0, .int .u8 0, .int .u8 0, .int .u8 0, .int .u8 0, .int .u8 0, .int .u8 0, .int .u8 0, .int .u8 0, .int .u8 0, .int .u8 0, .int .u8 0, .slice none 0 0, .bool false, .int .u32 0, .int .i64 0, .bool false, .int .u8 0, .slice none 0 0] 28) = W := ⟨_, rfl⟩
 have hB : Below w.heap.size w W1 := by rw [← hW1]; exact (Below.refl _ _).alloc (Nat.le_refl _) _
 have hV : Has W1 w.heap.size (.cells #[.int .u8 0, .int .u32 0, .int .u8 0, .int .u8 0, .int .u8 0, .int .u8 0, .int .u8 0, .int .u8 0, .int .u8 0, .int .u8 0, .int .u8 0, .int .u8 0, .int .u8 0, .int .u8 0, .int .u8 0, .int .u8 0, .int .u8 0, .int .u8 0, .int .u8 0, .int .u8 0, .int .u8 0, .int .u8 0, .int .u8 0, .int .u8 0, .int .u8 0, .int .u8 0, .int .u8 0, .int .u8 0, .int .u8 0, .int .u8 0, .int .u8 0, .int .u8 0, .int .u8 0, .int .u8 0, .int .u8 0, .slice none 0 0, .bool false, .int .u32 0, .int .i64 0, .bool false, .int .u8 0, .slice none 0 0] 28 (0, 0)) := by rw [← hW1]; exact Has.newAt rfl
 have hs1 : W1.heap.size = w.heap.size + 1 := by rw [← hW1]; simp
 have hy := (hy.below hB (Nat.le_refl _)).more (Nat.le_succ w.heap.size)
 have hNb := Nat.le_trans hy.cap hy.big
 have hlr := hy.rng
 clear hN
 by_cases h40 : N < 40
 case pos =>
  have hGe : Hid (g6 false l = bad6 50 0) := Lib.hid (by unfold g6; rw [if_pos (by rw [hlH.out]; exact h40)])
  clear hy
  go_enter Try.func84, Try.ntmps84
  go_wp2_with (refine wpList_store_row rfl 28 (.tmp 4) (.tmp 17) rfl w.heap.size (D6.cells zero6 pZ6) rfl rfl 28 _ hV v6_info rfl (D6.cells_one _ _) ?_)
  have hgot : got6 false l = zero6 := by unfold got6; rw [hGe.out]; exact if_neg (by simp [bad6])
  rw [hgot, hGe.out]
  exact bodyPost_ret (res_cell3 Try.results84 rfl (hV.setRow_same.load (P := Try.prog) 28 Try.underlying28 rfl v6_info) rfl rfl) rfl ⟨⟨pZ6, _, _, rfl, Lib.hid rfl, Lib.hid rfl, own6_zero _ _⟩, hB.trans below_setRow'⟩
 obtain ⟨b, o, rfl, hb, -⟩ := hy.row.at_ (by omega)
 obtain ⟨x0, hx0⟩ : ∃ x, l.getD 0 0 = x := ⟨_, rfl⟩
 have e0 := hy.atO (k := 0) (by omega)
 have g0 := getD_byte hlr 0
 rw [hx0] at e0 g0
 obtain ⟨x1, hx1⟩ : ∃ x, l.getD 1 0 = x := ⟨_, rfl⟩
 have e1 := hy.atO (k := 1) (by omega)
 have g1 := getD_byte hlr 1
 rw [hx1] at e1 g1
 obtain ⟨x2, hx2⟩ : ∃ x, l.getD 2 0 = x := ⟨_, rfl⟩
 have e2 := hy.atO (k := 2) (by omega)
 have g2 := getD_byte hlr 2
 rw [hx2] at e2 g2
 obtain ⟨x3, hx3⟩ : ∃ x, l.getD 3 0 = x := ⟨_, rfl⟩
 have e3 := hy.atO (k := 3) (by omega)
 have g3 := getD_byte hlr 3
 rw [hx3] at e3 g3
 obtain ⟨x4, hx4⟩ : ∃ x, l.getD 4 0 = x := ⟨_, rfl⟩
 have e4 := hy.atO (k := 4) (by omega)
 have g4 := getD_byte hlr 4
 rw [hx4] at e4 g4
 obtain ⟨x5, hx5⟩ : ∃ x, l.getD 5 0 = x := ⟨_, rfl⟩
 have e5 := hy.atO (k := 5) (by omega)
 have g5 := getD_byte hlr 5
 rw [hx5] at e5 g5
 obtain ⟨x6, hx6⟩ : ∃ x, l.getD 6 0 = x := ⟨_, rfl⟩
 have e6 := hy.atO (k := 6) (by omega)
 have g6' := getD_byte hlr 6
 rw [hx6] at e6 g6'
 obtain ⟨x7, hx7⟩ : ∃ x, l.getD 7 0 = x := ⟨_, rfl⟩
 have e7 := hy.atO (k := 7) (by omega)
 have g7 := getD_byte hlr 7
 rw [hx7] at e7 g7
 have e0 : W1.cell? ⟨b, o, none⟩ = some (.int .u8 x0) := e0
 have hx0H := Lib.hid hx0
 have hGs : Hid (∀ G, (if x0 / 16 ≠ 6 then bad6 51 0 else if x4 * 256 + x5 < (N : Int) - 40 ∨ (false = true ∧ (N : Int) - 40 < x4 * 256 + x5) then bad6 52 4 else go6 l 9 40 x6 []) = G → g6 false l = G) := Lib.hid (by
  intro G hG
  rw [← hG, g6, if_neg (by rw [hlH.out]; exact h40), said6, hx0, hx4, hx5, hx6, hlH.out])
 by_cases hv : x0 / 16 = 6
 case neg =>
  have hGe : Hid (g6 false l = bad6 51 0) := Lib.hid (hGs.out _ (if_pos hv))
  have hv : (x0 / 16 != 6) = true := by simpa using hv
  clear hGs hx0 hx1 hx2 hx3 hx4 hx5 hx6 hx7 hy
  go_enter Try.func84, Try.ntmps84
  go_wp2_with (refine wpList_store_row rfl 28 (.tmp 4) (.tmp 23) rfl w.heap.size (D6.cells zero6 pZ6) rfl rfl 28 _ hV v6_info rfl (D6.cells_one _ _) ?_)
  have hgot : got6 false l = zero6 := by unfold got6; rw [hGe.out]; exact if_neg (by simp [bad6])
  rw [hgot, hGe.out]
  exact bodyPost_ret (res_cell3 Try.results84 rfl (hV.setRow_same.load (P := Try.prog) 28 Try.underlying28 rfl v6_info) rfl rfl) rfl ⟨⟨pZ6, _, _, rfl, Lib.hid rfl, Lib.hid rfl, own6_zero _ _⟩, hB.trans below_setRow'⟩
 case pos =>
 have hv2 : (x0 / 16 != 6) = false := by simpa using hv
 obtain ⟨SD, hSD⟩ : ∃ SD, x4 * 256 + x5 = SD := ⟨_, rfl⟩
 have hSDb : 0 ≤ SD ∧ SD ≤ 65535 := by omega
 have hGs : Hid (∀ G, (if SD < (N : Int) - 40 ∨ (false = true ∧ (N : Int) - 40 < SD) then bad6 52 4 else go6 l 9 40 x6 []) = G → g6 false l = G) := Lib.hid (fun G hG => hGs.out G (by rw [if_neg (Decidable.not_not.2 hv), hSD]; exact hG))
 have hGxs := Lib.hid (show l.getD 0 0 % 16 * 16 + l.getD 1 0 / 16 = x0 % 16 * 16 + x1 / 16 ∧ l.getD 1 0 % 16 * 65536 + l.getD 2 0 * 256 + l.getD 3 0 = x1 % 16 * 65536 + x2 * 256 + x3 ∧ l.getD 7 0 = x7 from ⟨by rw [hx0, hx1], by rw [hx1, hx2, hx3], hx7⟩)
 clear hx0 hx1 hx2 hx3 hx4 hx5 hx6 hx7 hx0H
 go_enter Try.func84, Try.ntmps84
 go_wp2
 refine wp_region_held_drew (S := fun W => Below (w.heap.size + 1) W1 W) (by kernel_rfl) (below_drew _ _) (fun hS => ?_)
 refine te 0 (.slice (some ⟨b, o, none⟩) N c) hS rfl (by intro _ _; exact rfl) ?_
 simp only [lay]
 refine te 1 (.pointer (some ⟨b, o + 4, none⟩)) hS rfl (by intro _ _; exact ex_index (by exact rfl) Try.underlying26 (by kernel_rfl) (by exact rfl) (by exact rfl) ((by omega))) ?_
 simp only [lay]
 refine te 2 (.int .u8 x4) hS rfl (by intro _ h; exact ex_cell (by exact rfl) Try.underlying5 rfl (by exact rfl) ((Below.cell h (p := ⟨b, o + 4, none⟩) hb).trans e4)) ?_
 simp only [lay]
 refine te 3 (.int .i64 x4) hS rfl (by intro _ h; exact ex_conv (by exact rfl) (by exact rfl) (conv_i64 _ _ _ _ rfl rfl (by omega) _)) ?_
 simp only [lay]
 refine te 4 (.int .i64 (x4 * 256)) hS rfl (by intro _ _; exact ex_bin (by exact rfl) (by exact rfl) (by exact rfl) (by decide) (b_mul _ _ rfl (by omega) _)) ?_
 simp only [lay]
 refine te 5 (.slice (some ⟨b, o, none⟩) N c) hS rfl (by intro _ _; exact rfl) ?_
 simp only [lay]
 refine te 6 (.pointer (some ⟨b, o + 5, none⟩)) hS rfl (by intro _ _; exact ex_index (by exact rfl) Try.underlying26 (by kernel_rfl) (by exact rfl) (by exact rfl) ((by omega))) ?_
 simp only [lay]
 refine te 7 (.int .u8 x5) hS rfl (by intro _ h; exact ex_cell (by exact rfl) Try.underlying5 rfl (by exact rfl) ((Below.cell h (p := ⟨b, o + 5, none⟩) hb).trans e5)) ?_
 simp only [lay]
 refine te 8 (.int .i64 x5) hS rfl (by intro _ h; exact ex_conv (by exact rfl) (by exact rfl) (conv_i64 _ _ _ _ rfl rfl (by omega) _)) ?_
 simp only [lay]
 refine te 9 (.int .i64 SD) hS rfl (by intro _ _; exact ex_bin (by exact rfl) (by exact rfl) (by exact rfl) (by decide) (b_add _ _ hSD (by omega) _)) ?_
 simp only [lay]
 refine te 10 (.int .i64 SD) hS rfl (by intro _ _; exact rfl) ?_
 simp only [lay]
 refine wpAnyH_done (by kernel_rfl) ?_ _
 clear hSD
 by_cases hlong : SD < (N : Int) - 40
 case pos =>
  have hGe : Hid (g6 false l = bad6 52 4) := Lib.hid (hGs.out _ (if_pos (.inl hlong)))
  have hV := hV.drew
  have hB := hB.trans (below_drew _ _)
  clear hGs hy hS
  go_wp2_with (refine wpList_store_row rfl 28 (.tmp 4) (.tmp 49) rfl w.heap.size (D6.cells zero6 pZ6) rfl rfl 28 _ hV v6_info rfl (D6.cells_one _ _) ?_)
  have hgot : got6 false l = zero6 := by unfold got6; rw [hGe.out]; exact if_neg (by simp [bad6])
  rw [hgot, hGe.out]
  exact bodyPost_ret (res_cell3 Try.results84 rfl (hV.setRow_same.load (P := Try.prog) 28 Try.underlying28 rfl v6_info) rfl rfl) rfl ⟨⟨pZ6, _, _, rfl, Lib.hid rfl, Lib.hid rfl, own6_zero _ _⟩, hB.trans below_setRow'⟩
 obtain ⟨G, hG⟩ : ∃ G, go6 l 9 40 x6 [] = G := ⟨_, rfl⟩
 have hGd : Hid (g6 false l = G) := Lib.hid (hGs.out _ (by rw [if_neg (by rintro (h | h); exact hlong h; exact Bool.false_ne_true h.1)]; exact hG))
 have hG0 := Lib.hid hG
 have hN65 : N ≤ 65575 := by omega
 obtain ⟨CL, hCL⟩ : ∃ CL, x0 % 16 * 16 + x1 / 16 = CL := ⟨_, rfl⟩
 obtain ⟨LB, hLB⟩ : ∃ LB, x1 % 16 * 65536 + x2 * 256 + x3 = LB := ⟨_, rfl⟩
 rw [hCL, hLB] at hGxs
 have hSL : ((l.drop 8).take 16).length = 16 := by rw [List.length_take, List.length_drop, hlH.out]; omega
 have hDL : ((l.drop 24).take 16).length = 16 := by rw [List.length_take, List.length_drop, hlH.out]; omega
 have hsg : ∀ j, j < 16 → ((l.drop 8).take 16).getD j 0 = l.getD (8 + j) 0 := fun j hj => by simp [List.getD, hj]
 have hdg : ∀ j, j < 16 → ((l.drop 24).take 16).getD j 0 = l.getD (24 + j) 0 := fun j hj => by simp [List.getD, hj]
 obtain ⟨SRC, hSRC⟩ : ∃ S, (l.drop 8).take 16 = S := ⟨_, rfl⟩
 obtain ⟨DST, hDST⟩ : ∃ S, (l.drop 24).take 16 = S := ⟨_, rfl⟩
 rw [hSRC] at hSL hsg
 rw [hDST] at hDL hdg
 have hsgH := Lib.hid hsg
 have hdgH := Lib.hid hdg
 have hfl0 := Lib.hid (show CL = l.getD 0 0 % 16 * 16 + l.getD 1 0 / 16 ∧ LB = l.getD 1 0 % 16 * 65536 + l.getD 2 0 * 256 + l.getD 3 0 ∧ x7 = l.getD 7 0 ∧ SRC = (l.drop 8).take 16 ∧ DST = (l.drop 24).take 16 from ⟨hGxs.out.1.symm, hGxs.out.2.1.symm, hGxs.out.2.2.symm, hSRC.symm, hDST.symm⟩)
 have hSLH := Lib.hid hSL
 have hDLH := Lib.hid hDL
 clear hSRC hDST hGs hG hsg hdg hGxs hSL hDL
 go_wp2
 refine wp_region_held_drew (S := fun W => Below (w.heap.size + 1) W1 W) (by kernel_rfl) ((below_drew _ _).trans (below_drew _ _)) (fun hS => ?_)
 have hs3 : w.heap.size + 1 ≤ W1.drew.drew.heap.size := Nat.le_of_eq hs1.symm
 generalize W1.drew.drew = W3 at hS hs3 ⊢
 refine te 0 (.slice (some ⟨b, o, none⟩) N c) hS rfl (by intro _ _; exact rfl) ?_
 simp only [lay]
 refine te 1 (.pointer (some ⟨b, o + 0, none⟩)) hS rfl (by intro _ _; exact ex_index (by exact rfl) Try.underlying26 (by kernel_rfl) (by exact rfl) (by exact rfl) ((by omega))) ?_
 simp only [lay]
 refine te 2 (.int .u8 x0) hS rfl (by intro _ h; exact ex_cell (by exact rfl) Try.underlying5 rfl (by exact rfl) ((Below.cell h (p := ⟨b, o + 0, none⟩) hb).trans e0)) ?_
 simp only [lay]
 refine te 3 (.int .u8 (x0 % 16)) hS rfl (by intro _ _; exact ex_bin (by exact rfl) (by exact rfl) (by exact rfl) (by decide) (b_rem16 _ g0 _)) ?_
 simp only [lay]
 refine te 4 (.int .u8 (x0 % 16 * 16)) hS rfl (by intro _ _; exact ex_bin (by exact rfl) (by exact rfl) (by exact rfl) (by decide) (b_mul8 _ _ rfl (by omega) _)) ?_
 simp only [lay]
 refine te 5 (.slice (some ⟨b, o, none⟩) N c) hS rfl (by intro _ _; exact rfl) ?_
 simp only [lay]
 refine te 6 (.pointer (some ⟨b, o + 1, none⟩)) hS rfl (by intro _ _; exact ex_index (by exact rfl) Try.underlying26 (by kernel_rfl) (by exact rfl) (by exact rfl) ((by omega))) ?_
 simp only [lay]
 refine te 7 (.int .u8 x1) hS rfl (by intro _ h; exact ex_cell (by exact rfl) Try.underlying5 rfl (by exact rfl) ((Below.cell h (p := ⟨b, o + 1, none⟩) hb).trans e1)) ?_
 simp only [lay]
 refine te 8 (.int .u8 (x1 / 16)) hS rfl (by intro _ _; exact ex_bin (by exact rfl) (by exact rfl) (by exact rfl) (by decide) (b_quo16 _ g1 _)) ?_
 simp only [lay]
 refine te 9 (.int .u8 CL) hS rfl (by intro _ _; exact ex_bin (by exact rfl) (by exact rfl) (by exact rfl) (by decide) (b_add8 _ _ hCL (by omega) _)) ?_
 simp only [lay]
 refine te 10 (.slice (some ⟨b, o, none⟩) N c) hS rfl (by intro _ _; exact rfl) ?_
 simp only [lay]
 refine te 11 (.pointer (some ⟨b, o + 1, none⟩)) hS rfl (by intro _ _; exact ex_index (by exact rfl) Try.underlying26 (by kernel_rfl) (by exact rfl) (by exact rfl) ((by omega))) ?_
 simp only [lay]
 refine te 12 (.int .u8 x1) hS rfl (by intro _ h; exact ex_cell (by exact rfl) Try.underlying5 rfl (by exact rfl) ((Below.cell h (p := ⟨b, o + 1, none⟩) hb).trans e1)) ?_
 simp only [lay]
 refine te 13 (.int .u8 (x1 % 16)) hS rfl (by intro _ _; exact ex_bin (by exact rfl) (by exact rfl) (by exact rfl) (by decide) (b_rem16 _ g1 _)) ?_
 simp only [lay]
 refine te 14 (.int .u32 (x1 % 16)) hS rfl (by intro _ h; exact ex_conv (by exact rfl) (by exact rfl) (conv_u32 _ _ _ _ rfl rfl (by omega) (by omega) _)) ?_
 simp only [lay]
 refine te 15 (.int .u32 (x1 % 16 * 65536)) hS rfl (by intro _ _; exact ex_bin (by exact rfl) (by exact rfl) (by exact rfl) (by decide) (b_mul32 _ _ rfl (by omega) _)) ?_
 simp only [lay]
 refine te 16 (.slice (some ⟨b, o, none⟩) N c) hS rfl (by intro _ _; exact rfl) ?_
 simp only [lay]
 refine te 17 (.pointer (some ⟨b, o + 2, none⟩)) hS rfl (by intro _ _; exact ex_index (by exact rfl) Try.underlying26 (by kernel_rfl) (by exact rfl) (by exact rfl) ((by omega))) ?_
 simp only [lay]
 refine te 18 (.int .u8 x2) hS rfl (by intro _ h; exact ex_cell (by exact rfl) Try.underlying5 rfl (by exact rfl) ((Below.cell h (p := ⟨b, o + 2, none⟩) hb).trans e2)) ?_
 simp only [lay]
 refine te 19 (.int .u32 x2) hS rfl (by intro _ h; exact ex_conv (by exact rfl) (by exact rfl) (conv_u32 _ _ _ _ rfl rfl (by omega) (by omega) _)) ?_
 simp only [lay]
 refine te 20 (.int .u32 (x2 * 256)) hS rfl (by intro _ _; exact ex_bin (by exact rfl) (by exact rfl) (by exact rfl) (by decide) (b_mul32 _ _ rfl (by omega) _)) ?_
 simp only [lay]
 refine te 21 (.int .u32 (x1 % 16 * 65536 + x2 * 256)) hS rfl (by intro _ _; exact ex_bin (by exact rfl) (by exact rfl) (by exact rfl) (by decide) (b_add32 _ _ rfl (by omega) _)) ?_
 simp only [lay]
 refine te 22 (.slice (some ⟨b, o, none⟩) N c) hS rfl (by intro _ _; exact rfl) ?_
 simp only [lay]
 refine te 23 (.pointer (some ⟨b, o + 3, none⟩)) hS rfl (by intro _ _; exact ex_index (by exact rfl) Try.underlying26 (by kernel_rfl) (by exact rfl) (by exact rfl) ((by omega))) ?_
 simp only [lay]
 refine te 24 (.int .u8 x3) hS rfl (by intro _ h; exact ex_cell (by exact rfl) Try.underlying5 rfl (by exact rfl) ((Below.cell h (p := ⟨b, o + 3, none⟩) hb).trans e3)) ?_
 simp only [lay]
 refine te 25 (.int .u32 x3) hS rfl (by intro _ h; exact ex_conv (by exact rfl) (by exact rfl) (conv_u32 _ _ _ _ rfl rfl (by omega) (by omega) _)) ?_
 simp only [lay]
 refine te 26 (.int .u32 LB) hS rfl (by intro _ _; exact ex_bin (by exact rfl) (by exact rfl) (by exact rfl) (by decide) (b_add32 _ _ hLB (by omega) _)) ?_
 simp only [lay]
 refine te 27 (.slice (some ⟨b, o, none⟩) N c) hS rfl (by intro _ _; exact rfl) ?_
 simp only [lay]
 refine te 28 (.pointer (some ⟨b, o + 7, none⟩)) hS rfl (by intro _ _; exact ex_index (by exact rfl) Try.underlying26 (by kernel_rfl) (by exact rfl) (by exact rfl) ((by omega))) ?_
 simp only [lay]
 refine te 29 (.int .u8 x7) hS rfl (by intro _ h; exact ex_cell (by exact rfl) Try.underlying5 rfl (by exact rfl) ((Below.cell h (p := ⟨b, o + 7, none⟩) hb).trans e7)) ?_
 simp only [lay]
 refine te 30 (.agg #[.int .u8 CL, .int .u32 LB, .int .u8 x7, .int .u8 0, .int .u8 0, .int .u8 0, .int .u8 0, .int .u8 0, .int .u8 0, .int .u8 0, .int .u8 0, .int .u8 0, .int .u8 0, .int .u8 0, .int .u8 0, .int .u8 0, .int .u8 0, .int .u8 0, .int .u8 0, .int .u8 0, .int .u8 0, .int .u8 0, .int .u8 0, .int .u8 0, .int .u8 0, .int .u8 0, .int .u8 0, .int .u8 0, .int .u8 0, .int .u8 0, .int .u8 0, .int .u8 0, .int .u8 0, .int .u8 0, .int .u8 0, .slice none 0 0, .bool false, .int .u32 0, .int .i64 0, .bool false, .int .u8 0, .slice none 0 0]) hS rfl (by intro _ _; go_simp) ?_
 simp only [lay]
 refine tk_one (by kernel_rfl) (op_alloc (i := 31) (#[.int .u8 0, .int .u32 0, .int .u8 0, .int .u8 0, .int .u8 0, .int .u8 0, .int .u8 0, .int .u8 0, .int .u8 0, .int .u8 0, .int .u8 0, .int .u8 0, .int .u8 0, .int .u8 0, .int .u8 0, .int .u8 0, .int .u8 0, .int .u8 0, .int .u8 0, .int .u8 0, .int .u8 0, .int .u8 0, .int .u8 0, .int .u8 0, .int .u8 0, .int .u8 0, .int .u8 0, .int .u8 0, .int .u8 0, .int .u8 0, .int .u8 0, .int .u8 0, .int .u8 0, .int .u8 0, .int .u8 0, .slice none 0 0, .bool false, .int .u32 0, .int .i64 0, .bool false, .int .u8 0, .slice none 0 0]) rfl (by kernel_rfl) rfl (by kernel_rfl) (fun _ hb => hS.trans (hb.mono hs3)) ?_)
 intro gv W4 hQ4 hge4 hsz4 hb4 hS4
 simp only [lay]
 refine tk_store (i := 32) (cells := D6.cells { zero6 with cls := CL, lab := LB, hop := x7 } pZ6) (by kernel_rfl) rfl (by kernel_rfl) rfl rfl rfl hQ4 v6_info rfl (D6.cells_one _ _) (below_setRow hS4 (Nat.le_trans hs3 hge4) _) ?_
 simp only [lay]
 refine wpAnyH_done (by kernel_rfl) ?_ _
 have hgv : w.heap.size < gv := by have := hge4; omega
 have hBv : w.heap.size + 1 ≤ gv := hgv
 have hZ := hQ4.setRow_same (cs' := D6.cells { zero6 with cls := CL, lab := LB, hop := x7 } pZ6)
 have hS5 := below_setRow hS4 hBv (D6.cells { zero6 with cls := CL, lab := LB, hop := x7 } pZ6)
 have hz5 : (W4.setRow gv (D6.cells { zero6 with cls := CL, lab := LB, hop := x7 } pZ6)).heap.size = gv + 1 := by rw [← hsz4]; simp [World.setRow]
 generalize W4.setRow gv (D6.cells { zero6 with cls := CL, lab := LB, hop := x7 } pZ6) = W5 at hZ hS5 hz5 ⊢
 clear hQ4 hb4 hS4 hsz4 hge4 hCL hLB hS hs3
 have hZ0 : Has W5 gv (.cells (D6.cells { { zero6 with cls := CL, lab := LB, hop := x7 } with src := fst16 SRC 0, dst := fst16 DST 0 } pZ6) 28 (0, 0)) := hZ
 clear hZ
 go_wp2
 go_loopw [9] (fun i wr => ∃ j : Nat, j ≤ 16 ∧ i = .int .i64 j ∧ Has wr gv (.cells (D6.cells { { zero6 with cls := CL, lab := LB, hop := x7 } with src := fst16 SRC j, dst := fst16 DST j } pZ6) 28 (0, 0)) ∧ Below (w.heap.size + 1) W1 wr ∧ wr.heap.size = gv + 1) (fun i _ => 16 - (intOf i).toNat)
 case atStart => exact ⟨0, Nat.zero_le _, rfl, hZ0, hS5, hz5⟩
 case round =>
 clear hZ0 hS5 hz5
 obtain ⟨j, hj16, rfl, hZ, hBr, hzr⟩ := hrel
 rename_i wr _
 by_cases hj : j < 16
 case pos =>
  have hjz : (j : Int) < 16 := by omega
  have eys := hy.atO (k := 8 + j) (by omega)
  have eyd := hy.atO (k := 24 + j) (by omega)
  obtain ⟨ys, hys⟩ : ∃ y, l.getD (8 + j) 0 = y := ⟨_, rfl⟩
  obtain ⟨yd, hyd⟩ : ∃ y, l.getD (24 + j) 0 = y := ⟨_, rfl⟩
  rw [hys] at eys
  rw [hyd] at eyd
  have hset : ∀ W : World, Has W gv (.cells (D6.cells { { zero6 with cls := CL, lab := LB, hop := x7 } with src := fst16 SRC j, dst := fst16 DST j } pZ6) 28 (0, 0)) → Has ((W.setCell ⟨gv, 3 + j, none⟩ (.int .u8 ys)).setCell ⟨gv, 19 + j, none⟩ (.int .u8 yd)) gv (.cells (D6.cells { { zero6 with cls := CL, lab := LB, hop := x7 } with src := fst16 SRC (j + 1), dst := fst16 DST (j + 1) } pZ6) 28 (0, 0)) := fun W h => by
   have h1 := (h.setCell (3 + j) (.int .u8 ys)).setCell (19 + j) (.int .u8 yd)
   rw [cells_src _ pZ6 ys (fst16_len hSLH.out hj16) j hj, cells_dst _ pZ6 yd (fst16_len hDLH.out hj16) j hj] at h1
   dsimp only at h1
   rw [show ys = SRC.getD j 0 from by rw [hsgH.out j hj, hys], show yd = DST.getD j 0 from by rw [hdgH.out j hj, hyd], fst16_set hSLH.out hj, fst16_set hDLH.out hj] at h1
   rw [show ys = SRC.getD j 0 from by rw [hsgH.out j hj, hys], show yd = DST.getD j 0 from by rw [hdgH.out j hj, hyd]]
   exact h1
  have hsetH := Lib.hid hset
  clear hys hyd hset
  go_wp2
  refine wp_region_held_drew (S := fun W => Below (w.heap.size + 1) W1 W) (by kernel_rfl) (hBr.trans (below_drew _ _)) (fun hS => ?_)
  have hZ := hZ.drew
  have hzr : wr.drew.heap.size = gv + 1 := hzr
  generalize wr.drew = W6 at hS hZ hzr ⊢
  refine te 0 (.int .i64 (j : Int)) hS rfl (by intro _ _; exact rfl) ?_
  simp only [lay]
  refine te 1 (.int .i64 (j : Int)) hS rfl (by intro _ _; exact rfl) ?_
  simp only [lay]
  refine te 2 (.slice (some ⟨b, o, none⟩) N c) hS rfl (by intro _ _; exact rfl) ?_
  simp only [lay]
  refine te 3 (.int .i64 (j : Int)) hS rfl (by intro _ _; exact rfl) ?_
  simp only [lay]
  refine te 4 (.int .i64 ((8 + j : Nat) : Int)) hS rfl (by intro _ _; exact ex_bin (by exact rfl) (by exact rfl) (by exact rfl) (by decide) (b_add _ _ (by omega) (by omega) _)) ?_
  simp only [lay]
  refine te 5 (.pointer (some ⟨b, o + (8 + j), none⟩)) hS rfl (by intro _ _; exact ex_index (by exact rfl) Try.underlying26 (by kernel_rfl) (by exact rfl) (by exact rfl) (by omega)) ?_
  simp only [lay]
  refine te 6 (.int .u8 ys) hS rfl (by intro _ h; exact ex_cell (by exact rfl) Try.underlying5 rfl (by exact rfl) ((Below.cell h (p := ⟨b, o + (8 + j), none⟩) hb).trans eys)) ?_
  simp only [lay]
  refine te 7 (.slice (some ⟨b, o, none⟩) N c) hS rfl (by intro _ _; exact rfl) ?_
  simp only [lay]
  refine te 8 (.int .i64 (j : Int)) hS rfl (by intro _ _; exact rfl) ?_
  simp only [lay]
  refine te 9 (.int .i64 ((24 + j : Nat) : Int)) hS rfl (by intro _ _; exact ex_bin (by exact rfl) (by exact rfl) (by exact rfl) (by decide) (b_add _ _ (by omega) (by omega) _)) ?_
  simp only [lay]
  refine te 10 (.pointer (some ⟨b, o + (24 + j), none⟩)) hS rfl (by intro _ _; exact ex_index (by exact rfl) Try.underlying26 (by kernel_rfl) (by exact rfl) (by exact rfl) (by omega)) ?_
  simp only [lay]
  refine te 11 (.int .u8 yd) hS rfl (by intro _ h; exact ex_cell (by exact rfl) Try.underlying5 rfl (by exact rfl) ((Below.cell h (p := ⟨b, o + (24 + j), none⟩) hb).trans eyd)) ?_
  simp only [lay]
  refine te 12 (.pointer (some ⟨gv, 3, none⟩)) hS rfl (by intro _ _; exact ex_field 3 15 (by exact rfl) Try.underlying28 (by exact rfl) rfl (by kernel_rfl) (by exact rfl)) ?_
  simp only [lay]
  refine te 13 (.pointer (some ⟨gv, 3 + j, none⟩)) hS rfl (by intro _ _; exact ex_indexA (by exact rfl) Try.underlying24 (by kernel_rfl) (by exact rfl) (by exact rfl) hj) ?_
  simp only [lay]
  refine te 15 (.pointer (some ⟨gv, 19, none⟩)) hS rfl (by intro _ _; exact ex_field 19 15 (by exact rfl) Try.underlying28 (by exact rfl) rfl (by kernel_rfl) (by exact rfl)) ?_
  simp only [lay]
  refine tk_cell (i := 14) (v := .int .u8 ys) (by kernel_rfl) rfl (by kernel_rfl) rfl rfl rfl rfl (by kernel_rfl) hZ (show 3 + j < 42 by omega) rfl (below_setCell hS hBv _ _) ?_
  simp only [lay]
  refine tk (i := 16) (.pointer (some ⟨gv, 19 + j, none⟩)) (below_setCell hS hBv (3 + j) (.int .u8 ys)) rfl (by kernel_rfl) (by kernel_rfl) (by kernel_rfl) (fun _ _ _ h => h) (by kernel_rfl) (by intro _ _; exact ex_indexA (by exact rfl) Try.underlying24 (by kernel_rfl) (by exact rfl) (by exact rfl) hj) ?_
  simp only [lay]
  refine tk_cell (i := 17) (v := .int .u8 yd) (by kernel_rfl) rfl (by kernel_rfl) rfl rfl rfl rfl (by kernel_rfl) (hZ.setCell (3 + j) (.int .u8 ys)) (show 19 + j < ((D6.cells _ pZ6).setIfInBounds (3 + j) _).size by rw [Array.size_setIfInBounds]; show 19 + j < 42; omega) rfl (below_setCell (below_setCell hS hBv (3 + j) (.int .u8 ys)) hBv _ _) ?_
  simp only [lay]
  refine wpAnyH_done (by kernel_rfl) ?_ _
  have hZ2 := hsetH.out W6 hZ
  have hS2 := below_setCell (below_setCell hS hBv (3 + j) (.int .u8 ys)) hBv (19 + j) (.int .u8 yd)
  have hz2 : ((W6.setCell ⟨gv, 3 + j, none⟩ (.int .u8 ys)).setCell ⟨gv, 19 + j, none⟩ (.int .u8 yd)).heap.size = gv + 1 := by simpa [World.setCell] using hzr
  generalize (W6.setCell ⟨gv, 3 + j, none⟩ (.int .u8 ys)).setCell ⟨gv, 19 + j, none⟩ (.int .u8 yd) = W7 at hZ2 hS2 hz2 ⊢
  go_wp2
  go_roundw
  case rel => exact ⟨j + 1, by omega, by go_num, hZ2, hS2, hz2⟩
  case measure => simp [intOf]; omega
 have hjz : ¬ ((j : Int) < 16) := by omega
 obtain rfl : j = 16 := by omega
 rw [fst16_all hSLH.out, fst16_all hDLH.out] at hZ
 obtain ⟨gr, hgr⟩ : ∃ g, gv + 1 = g := ⟨_, rfl⟩
 have hxb : Below wr.heap.size wr (wr.alloc (.cells #[.slice (some ⟨b, o, none⟩) N c, .int .i64 40, .int .i64 0, .int .i64 0] 156)) := (Below.refl _ _).alloc (Nat.le_refl _) _
 have h1 : RT (w.heap.size + 1) (gr + 1) gr gv W1 (wr.alloc (.cells #[.slice (some ⟨b, o, none⟩) N c, .int .i64 40, .int .i64 0, .int .i64 0] 156)) (some ⟨b, o, none⟩) N c 40 0 0 { { zero6 with cls := CL, lab := LB, hop := x7 } with src := SRC, dst := DST } pZ6 :=
  ⟨Has.newAt (by rw [hzr, hgr]), hZ.alloc, OwnK.nil _ _ _, rfl, hBr.trans (hxb.mono (by omega))⟩
 have hw8 : (wr.alloc (.cells #[.slice (some ⟨b, o, none⟩) N c, .int .i64 40, .int .i64 0, .int .i64 0] 156)).heap.size = gr + 1 := by simp [hzr, hgr]
 have hzg : wr.heap.size = gr := hzr.trans hgr
 obtain ⟨W8, hW8⟩ : ∃ W, wr.alloc (.cells #[.slice (some ⟨b, o, none⟩) N c, .int .i64 40, .int .i64 0, .int .i64 0] 156) = W := ⟨_, rfl⟩
 rw [hW8] at h1 hw8
 have d6 := (h1.bel.cell (p := ⟨b, o + 6, none⟩) hb).trans e6
 have hBr' : w.heap.size + 1 ≤ gr := by omega
 have hGr : gr < gr + 1 := Nat.lt_succ_self gr
 have hGv : gv < gr + 1 := by omega
 have hne : gr ≠ gv := by omega
 have hBe := hB
 have hGw8 : gr + 1 ≤ W8.heap.size := by omega
 clear hZ hBr hzr hgr hxb hw8 e0 e1 e2 e3 e4 e5 e6 e7 hsgH hdgH hSLH hDLH
 go_wp2
 go_loopw [11] (fun kd wr => ∃ (n k : Nat) (kind : Int) (D : D6) (p : W6), kd = .int .u8 kind ∧ RT (w.heap.size + 1) (gr + 1) gr gv W1 wr (some ⟨b, o, none⟩) N c k 0 0 D p ∧ gr + 1 ≤ wr.heap.size ∧ (0 ≤ kind ∧ kind ≤ 255) ∧ k ≤ N ∧ D.hs.length ≤ 8 ∧ Hid (D.cls = CL ∧ D.lab = LB ∧ D.hop = x7 ∧ D.src = SRC ∧ D.dst = DST) ∧ Hid ((D.frag = false ∧ D.id = 0 ∧ D.off = 0 ∧ D.more = false ∧ n + D.hs.length = 9 ∧ go6 l n k kind D.hs = G) ∨ (D.frag = true ∧ G = ⟨0, 0, D.hs, true, D.id, D.off, D.more, D.pro, k⟩))) (fun _ wr => N + 1 - atOf wr gr)
 case atStart => exact ⟨9, 40, x6, { { zero6 with cls := CL, lab := LB, hop := x7 } with src := SRC, dst := DST }, pZ6, rfl, h1, hGw8, g6', by omega, Nat.zero_le _, Lib.hid ⟨rfl, rfl, rfl, rfl, rfl⟩, Lib.hid (.inl ⟨rfl, rfl, rfl, rfl, rfl, hG0.out⟩)⟩
 case round =>
 clear h1 hG0 hW8 d6 hGw8 hzg
 rename_i wr0 _ _ _
 obtain ⟨n, k, kind, D, p, rfl, h, hGw, hkr, hk, h8, hfl1, hG0⟩ := hrel
 rename_i wr _
 have hm0 : atOf wr gr = k := h.atOf
 have hBr := hBr'
 have hgr4 : gr ≠ w.heap.size := by omega
 have hfl : Hid (D.cls = l.getD 0 0 % 16 * 16 + l.getD 1 0 / 16 ∧ D.lab = l.getD 1 0 % 16 * 65536 + l.getD 2 0 * 256 + l.getD 3 0 ∧ D.hop = l.getD 7 0 ∧ D.src = (l.drop 8).take 16 ∧ D.dst = (l.drop 24).take 16) := Lib.hid (by
  obtain ⟨q1, q2, q3, q4, q5⟩ := hfl1.out
  obtain ⟨z1, z2, z3, z4, z5⟩ := hfl0.out
  exact ⟨q1.trans z1, q2.trans z2, q3.trans z3, q4.trans z4, q5.trans z5⟩)
 have c36 := h.vv.cell 36 (v := .bool D.frag) rfl
 cases hf : D.frag with
 | true =>
  rw [hf] at c36
  have hG0 : Hid (G = ⟨0, 0, D.hs, D.frag, D.id, D.off, D.more, D.pro, k⟩) := Lib.hid (by
   rcases hG0.out with h | h
   ·rw [hf] at h; cases h.1
   ·rw [hf]; exact h.2)
  clear hf
  have hGW7 := hGw
  obtain ⟨A9, c9, r9, y9x⟩ := hy.from_ (P := Try.prog) 26 Try.underlying26 (by kernel_rfl) (k := k) hk
  have hdl : (l.drop k).length = N - k := by rw [List.length_drop, hlH.out]
  have hDe : ({ D with bl := l.drop k } : D6) = of6 l G := by
   rw [hG0.out]
   obtain ⟨q1, q2, q3, q4, q5⟩ := hfl.out
   simp only [of6]
   rw [q1, q2, q3, q4, q5]
  have hgot : got6 false l = of6 l G := by unfold got6; rw [hGd.out, if_pos (by rw [hG0.out])]
  have hok : (of6 l G).ok := by have := @of6_ok false l hlr (by rw [hGd.out, hG0.out]); rw [hGd.out] at this; exact this
  have hgotH := Lib.hid hgot
  have hDeH := Lib.hid hDe
  have hokH := Lib.hid hok
  have hltg : w.heap.size < gr + 1 := by omega
  clear hgot hDe hok
  go_wp2_with (first | (refine pl_build0 rfl rfl Try.underlying26 (by kernel_rfl) ?_; intro g9 w8 o8 hb8; have h8 := h.below7 hBr hb8; have hAt := h8.rd.cell 1 (v := .int .i64 (k : Int)) rfl; have y9 := y9x.below h8.bel (Nat.le_refl _)) | (refine wl_slice 26 _ _ _ _ rfl (by kernel_rfl) (.slice (some ⟨b, o, none⟩) N c) rfl (some (.int .i64 (k : Int))) none none rfl rfl rfl (r9 _) ?_) | (refine pl_app _ _ _ rfl rfl Try.underlying26 infoB wr.heap.size _ _ rfl o8 _ A9 (N - k) c9 (l.drop k) rfl y9 (by simp only [List.length_nil]; omega) hb8.size ?_; intro v9 w9 o9 hb9; rw [List.nil_append] at o9; obtain ⟨A9', c9', rfl, _⟩ := own_shape o9.own; rw [hdl] at o9 ⊢; have h9 := h.below7 hBr (hb8.trans hb9); have k41 := h9.vv.cell 41 (v := .slice p.bA D.bl.length p.bc) rfl; have f41 := h9.vv.free 41; have h10 := h9.setV (j := 41) (v := .slice A9' (N - k) c9') (D' := { D with bl := l.drop k }) (p' := { p with bA := A9', bc := c9' }) hBv hGv hne (by rw [← hdl]; rfl) rfl rfl rfl rfl; have o10 := OwnB.but6 o9 (But6.setCell gv 41 w9 (.slice A9' (N - k) c9')) (Nat.lt_of_lt_of_le hGv hGW7); obtain ⟨W10, hW10⟩ : ∃ W, w9.setCell ⟨gv, 41, none⟩ (.slice A9' (N - k) c9') = W := ⟨_, rfl⟩; rw [hW10] at h10 o10; have hV10 := hV.below h10.bel (Nat.lt_succ_self _); have hVV := h10.vv) | (refine wpList_load_row rfl 28 (.tmp 8) rfl gv rfl 28 (D6.cells { D with bl := l.drop k } { p with bA := A9', bc := c9' }) (0, 0) _ hVV Try.underlying28 rfl v6_info ?_) | (refine wpList_store_row rfl 28 (.tmp 4) (.tmp 150) rfl w.heap.size (D6.cells { D with bl := l.drop k } { p with bA := A9', bc := c9' }) rfl rfl 28 _ hV10 v6_info rfl (D6.cells_one _ _) ?_))
  rw [hgotH.out, hGd.out, ← hDeH.out]
  have hown : Own6 W10 (gr + 1) { D with bl := l.drop k } { p with bA := A9', bc := c9' } := ⟨hDeH.out ▸ hokH.out, h10.own, h10.hl, (by rw [hdl]; exact o10.more hGW7)⟩
  exact bodyPost_ret (res_cell3 Try.results84 rfl (hV10.setRow_same.load (P := Try.prog) 28 Try.underlying28 rfl v6_info) rfl rfl) rfl ⟨⟨{ p with bA := A9', bc := c9' }, _, _, rfl, Lib.hid (by rw [hG0.out] <;> rfl), Lib.hid (by rw [hG0.out] <;> rfl), ((hown.setRow hltg).more (Nat.le_of_lt hltg))⟩, hBe.trans ((h10.bel.mono (Nat.le_succ _)).trans below_setRow')⟩
 | false =>
  rw [hf] at c36
  have hG1 : Hid (D.id = 0 ∧ D.off = 0 ∧ D.more = false ∧ n + D.hs.length = 9 ∧ go6 l n k kind D.hs = G) := Lib.hid (by
   rcases hG0.out with h | h
   ·exact h.2
   ·rw [hf] at h; cases h.1)
  obtain ⟨m, hm⟩ : ∃ m, n = m + 1 := ⟨n - 1, by have := hG1.out.2.2.2.1; omega⟩
  have hmH := Lib.hid hm
  clear hm hG0
  cases hx : extra6 kind with
  | false =>
   by_cases h44 : kind = 44
   case neg =>
    have h44b : (kind == 44) = false := by simpa using h44
    have hG0 : Hid (G = ⟨0, 0, D.hs, D.frag, D.id, D.off, D.more, kind, k⟩) := Lib.hid (by
     obtain ⟨i1, i2, i3, i4, i5⟩ := hG1.out
     rw [← i5, hmH.out, go6, if_pos ⟨hx, h44⟩, hf, i1, i2, i3])
    go_wp2_with fail
    refine (rextra_any _ _).mono ?_
    rintro e w9 ⟨⟨q, rfl, hq⟩, hw9⟩
    obtain rfl : wr = w9 := hw9.symm
    obtain rfl : q = false := hq.out.trans hx
    clear hq
    clear hG1 hx hf
    have k40 := h.vv.cell 40 (v := .int .u8 D.pro) rfl
    have f40 := h.vv.free 40
    have h40 := h.setV (j := 40) (v := .int .u8 kind) (D' := { D with pro := kind }) (p' := p) hBv hGv hne rfl rfl rfl rfl rfl
    obtain ⟨W7, hW7⟩ : ∃ W, wr.setCell ⟨gv, 40, none⟩ (.int .u8 kind) = W := ⟨_, rfl⟩
    rw [hW7] at h40
    have hGW7 : gr + 1 ≤ W7.heap.size := by rw [← hW7]; simpa [World.setCell] using hGw
    obtain ⟨A9, c9, r9, y9x⟩ := hy.from_ (P := Try.prog) 26 Try.underlying26 (by kernel_rfl) (k := k) hk
    have hdl : (l.drop k).length = N - k := by rw [List.length_drop, hlH.out]
    have hDe : ({ D with pro := kind, bl := l.drop k } : D6) = of6 l G := by
     rw [hG0.out]
     obtain ⟨q1, q2, q3, q4, q5⟩ := hfl.out
     simp only [of6]
     rw [q1, q2, q3, q4, q5]
    have hgot : got6 false l = of6 l G := by unfold got6; rw [hGd.out, if_pos (by rw [hG0.out])]
    have hok : (of6 l G).ok := by have := @of6_ok false l hlr (by rw [hGd.out, hG0.out]); rw [hGd.out] at this; exact this
    have hgotH := Lib.hid hgot
    have hDeH := Lib.hid hDe
    have hokH := Lib.hid hok
    have hltg : w.heap.size < gr + 1 := by omega
    clear hgot hDe hok
    go_wp2_with (first | (refine pl_build0 rfl rfl Try.underlying26 (by kernel_rfl) ?_; intro g9 w8 o8 hb8; have h8 := h40.below7 hBr hb8; have hAt := h8.rd.cell 1 (v := .int .i64 (k : Int)) rfl; have y9 := y9x.below h8.bel (Nat.le_refl _)) | (refine wl_slice 26 _ _ _ _ rfl (by kernel_rfl) (.slice (some ⟨b, o, none⟩) N c) rfl (some (.int .i64 (k : Int))) none none rfl rfl rfl (r9 _) ?_) | (refine pl_app _ _ _ rfl rfl Try.underlying26 infoB W7.heap.size _ _ rfl o8 _ A9 (N - k) c9 (l.drop k) rfl y9 (by simp only [List.length_nil]; omega) hb8.size ?_; intro v9 w9 o9 hb9; rw [List.nil_append] at o9; obtain ⟨A9', c9', rfl, _⟩ := own_shape o9.own; rw [hdl] at o9 ⊢; have h9 := h40.below7 hBr (hb8.trans hb9); have k41 := h9.vv.cell 41 (v := .slice p.bA D.bl.length p.bc) rfl; have f41 := h9.vv.free 41; have h10 := h9.setV (j := 41) (v := .slice A9' (N - k) c9') (D' := { D with pro := kind, bl := l.drop k }) (p' := { p with bA := A9', bc := c9' }) hBv hGv hne (by rw [← hdl]; rfl) rfl rfl rfl rfl; have o10 := OwnB.but6 o9 (But6.setCell gv 41 w9 (.slice A9' (N - k) c9')) (Nat.lt_of_lt_of_le hGv hGW7); obtain ⟨W10, hW10⟩ : ∃ W, w9.setCell ⟨gv, 41, none⟩ (.slice A9' (N - k) c9') = W := ⟨_, rfl⟩; rw [hW10] at h10 o10; have hV10 := hV.below h10.bel (Nat.lt_succ_self _); have hVV := h10.vv) | (refine wpList_load_row rfl 28 (.tmp 8) rfl gv rfl 28 (D6.cells { D with pro := kind, bl := l.drop k } { p with bA := A9', bc := c9' }) (0, 0) _ hVV Try.underlying28 rfl v6_info ?_) | (refine wpList_store_row rfl 28 (.tmp 4) (.tmp 150) rfl w.heap.size (D6.cells { D with pro := kind, bl := l.drop k } { p with bA := A9', bc := c9' }) rfl rfl 28 _ hV10 v6_info rfl (D6.cells_one _ _) ?_))
    rw [hgotH.out, hGd.out, ← hDeH.out]
    have hown : Own6 W10 (gr + 1) { D with pro := kind, bl := l.drop k } { p with bA := A9', bc := c9' } := ⟨hDeH.out ▸ hokH.out, h10.own, h10.hl, (by rw [hdl]; exact o10.more hGW7)⟩
    exact bodyPost_ret (res_cell3 Try.results84 rfl (hV10.setRow_same.load (P := Try.prog) 28 Try.underlying28 rfl v6_info) rfl rfl) rfl ⟨⟨{ p with bA := A9', bc := c9' }, _, _, rfl, Lib.hid (by rw [hG0.out] <;> rfl), Lib.hid (by rw [hG0.out] <;> rfl), ((hown.setRow hltg).more (Nat.le_of_lt hltg))⟩, hBe.trans ((h10.bel.mono (Nat.le_succ _)).trans below_setRow')⟩
   case pos =>
   subst h44
   obtain ⟨pA, hc2, ps, bA, bc⟩ := p
   by_cases hs : N < k + 8
   case pos =>
    have hGe : Hid (g6 false l = bad6 50 k) := Lib.hid (by
     obtain ⟨i1, i2, i3, i4, i5⟩ := hG1.out
     rw [hGd.out, ← i5, hmH.out, go6, if_neg (by rintro ⟨_, h⟩; exact h rfl), if_pos (by rw [hlH.out]; exact hs)])
    go_wp2_with fail
    refine (rextra_any _ _).mono ?_
    rintro e w9 ⟨⟨q, rfl, hq⟩, hw9⟩
    obtain rfl : wr = w9 := hw9.symm
    obtain rfl : q = false := hq.out.trans hx
    clear hq
    clear hx hf
    go_wp2_with fail
    refine (rhead_short h hy hBr hBv hGr hGv hne hk 44 hs).mono ?_
    rintro e w5 ⟨rfl, h5⟩
    have hV := hV.below h5.bel (Nat.lt_succ_self _)
    have hBz := hBe.trans (h5.bel.mono (Nat.le_succ _))
    have hVx := hV.drew
    clear hG1 h c36
    go_wp2
    refine wp_region_held_drew (S := fun W => Has W gr (.cells (rdr (some ⟨b, o, none⟩) N c (k : Int) 50 (k : Int)) 156 (0, 0)) ∧ Below w.heap.size w W) (by kernel_rfl) (⟨h5.rd.drew, hBz.trans (below_drew _ _)⟩) (fun hS => ?_)
    refine te 0 (.agg #[.int .u8 0, .int .u32 0, .int .u8 0, .int .u8 0, .int .u8 0, .int .u8 0, .int .u8 0, .int .u8 0, .int .u8 0, .int .u8 0, .int .u8 0, .int .u8 0, .int .u8 0, .int .u8 0, .int .u8 0, .int .u8 0, .int .u8 0, .int .u8 0, .int .u8 0, .int .u8 0, .int .u8 0, .int .u8 0, .int .u8 0, .int .u8 0, .int .u8 0, .int .u8 0, .int .u8 0, .int .u8 0, .int .u8 0, .int .u8 0, .int .u8 0, .int .u8 0, .int .u8 0, .int .u8 0, .int .u8 0, .slice none 0 0, .bool false, .int .u32 0, .int .i64 0, .bool false, .int .u8 0, .slice none 0 0]) hS rfl (by intro _ _; go_simp) ?_
    simp only [lay]
    refine te 1 (.pointer (some ⟨gr, 0, none⟩)) hS rfl (by intro _ _; exact rfl) ?_
    simp only [lay]
    refine te 2 (.pointer (some ⟨gr, 0, none⟩)) hS rfl (by intro _ _; exact ex_nilc (by exact rfl) (by exact rfl)) ?_
    simp only [lay]
    refine te 3 (.pointer (some ⟨gr, 3, none⟩)) hS rfl (by intro _ _; exact ex_field 3 0 (by exact rfl) Try.underlying156 (by exact rfl) rfl (by kernel_rfl) (by exact rfl)) ?_
    simp only [lay]
    refine te 4 (.int .i64 (k : Int)) hS rfl (by intro _ h; exact ex_cell (by exact rfl) Try.underlying3 rfl (by exact rfl) (h.1.cell 3 rfl)) ?_
    simp only [lay]
    refine te 5 (.pointer (some ⟨gr, 0, none⟩)) hS rfl (by intro _ _; exact rfl) ?_
    simp only [lay]
    refine te 6 (.pointer (some ⟨gr, 0, none⟩)) hS rfl (by intro _ _; exact ex_nilc (by exact rfl) (by exact rfl)) ?_
    simp only [lay]
    refine te 7 (.pointer (some ⟨gr, 2, none⟩)) hS rfl (by intro _ _; exact ex_field 2 0 (by exact rfl) Try.underlying156 (by exact rfl) rfl (by kernel_rfl) (by exact rfl)) ?_
    simp only [lay]
    refine te 8 (.int .i64 50) hS rfl (by intro _ h; exact ex_cell (by exact rfl) Try.underlying3 rfl (by exact rfl) (h.1.cell 2 rfl)) ?_
    simp only [lay]
    refine tk_store (i := 9) (cells := D6.cells zero6 pZ6) (by kernel_rfl) rfl (by kernel_rfl) rfl rfl rfl hVx v6_info rfl (D6.cells_one _ _) ⟨hS.1.setRow_other hgr4, below_setRow hS.2 (Nat.le_refl w.heap.size) _⟩ ?_
    simp only [lay]
    refine tk (i := 10) (.int .i64 (k : Int)) (show _ ∧ _ from ⟨hS.1.setRow_other hgr4, below_setRow hS.2 (Nat.le_refl w.heap.size) _⟩) rfl (by kernel_rfl) (by kernel_rfl) (by kernel_rfl) (fun _ _ _ h => h) (by kernel_rfl) (by intro _ _; exact rfl) ?_
    simp only [lay]
    refine tk (i := 11) (.int .i64 50) (show _ ∧ _ from ⟨hS.1.setRow_other hgr4, below_setRow hS.2 (Nat.le_refl w.heap.size) _⟩) rfl (by kernel_rfl) (by kernel_rfl) (by kernel_rfl) (fun _ _ _ h => h) (by kernel_rfl) (by intro _ _; exact rfl) ?_
    simp only [lay]
    refine wpAnyH_done (by kernel_rfl) ?_ _
    go_wp2
    have hgot : got6 false l = zero6 := by unfold got6; rw [hGe.out]; exact if_neg (by simp [bad6])
    rw [hgot, hGe.out]
    exact bodyPost_ret (res_cell3 Try.results84 rfl (hVx.setRow_same.load (P := Try.prog) 28 Try.underlying28 rfl v6_info) rfl rfl) rfl ⟨⟨pZ6, _, _, rfl, Lib.hid rfl, Lib.hid rfl, own6_zero _ _⟩, below_setRow hS.2 (Nat.le_refl w.heap.size) _⟩
   have hG2 : Hid (G = ⟨0, 0, D.hs, true, l.getD (k + 4) 0 * 16777216 + l.getD (k + 5) 0 * 65536 + l.getD (k + 6) 0 * 256 + l.getD (k + 7) 0, l.getD (k + 2) 0 * 32 + l.getD (k + 3) 0 / 8, decide (l.getD (k + 3) 0 % 2 = 1), l.getD k 0, k + 8⟩) := Lib.hid (by
    obtain ⟨i1, i2, i3, i4, i5⟩ := hG1.out
    rw [← i5, hmH.out, go6, if_neg (by rintro ⟨_, h⟩; exact h rfl), if_neg (by rw [hlH.out]; exact hs), if_pos rfl])
   go_wp2_with fail
   refine (rextra_any _ _).mono ?_
   rintro e w9 ⟨⟨q, rfl, hq⟩, hw9⟩
   obtain rfl : wr = w9 := hw9.symm
   obtain rfl : q = false := hq.out.trans hx
   clear hq
   clear hG1 hx hf
   go_wp2_with fail
   refine (rhead_frag h hy hBr hBv hGr hGv hne hk (by omega)).mono ?_
   rintro e w5 ⟨rfl, h5⟩
   clear c36
   go_wp2
   go_roundw
   case rel => exact ⟨0, k + 8, 0, _, _, rfl, h5, h5.rd.lt, by decide, by omega, h8, Lib.hid hfl1.out, Lib.hid (.inr ⟨rfl, hG2.out⟩)⟩
   case measure => rw [h5.atOf, hm0]; omega
  | true =>
   have h44 : kind ≠ 44 := by
    rintro rfl
    simp [extra6] at hx
   obtain ⟨pA, hc2, ps, bA, bc⟩ := p
   by_cases hs : N < k + 8
   case pos =>
    have hGe : Hid (g6 false l = bad6 50 k) := Lib.hid (by
     obtain ⟨i1, i2, i3, i4, i5⟩ := hG1.out
     rw [hGd.out, ← i5, hmH.out, go6, if_neg (by rintro ⟨h, _⟩; rw [hx] at h; cases h), if_pos (by rw [hlH.out]; exact hs)])
    go_wp2_with fail
    refine (rextra_any _ _).mono ?_
    rintro e w9 ⟨⟨q, rfl, hq⟩, hw9⟩
    obtain rfl : wr = w9 := hw9.symm
    obtain rfl : q = true := hq.out.trans hx
    clear hq
    clear hx hf
    go_wp2_with fail
    refine (rhead_short h hy hBr hBv hGr hGv hne hk kind hs).mono ?_
    rintro e w5 ⟨rfl, h5⟩
    have hV := hV.below h5.bel (Nat.lt_succ_self _)
    have hBz := hBe.trans (h5.bel.mono (Nat.le_succ _))
    have hVx := hV.drew
    clear hG1 h c36
    go_wp2
    refine wp_region_held_drew (S := fun W => Has W gr (.cells (rdr (some ⟨b, o, none⟩) N c (k : Int) 50 (k : Int)) 156 (0, 0)) ∧ Below w.heap.size w W) (by kernel_rfl) (⟨h5.rd.drew, hBz.trans (below_drew _ _)⟩) (fun hS => ?_)
    refine te 0 (.agg #[.int .u8 0, .int .u32 0, .int .u8 0, .int .u8 0, .int .u8 0, .int .u8 0, .int .u8 0, .int .u8 0, .int .u8 0, .int .u8 0, .int .u8 0, .int .u8 0, .int .u8 0, .int .u8 0, .int .u8 0, .int .u8 0, .int .u8 0, .int .u8 0, .int .u8 0, .int .u8 0, .int .u8 0, .int .u8 0, .int .u8 0, .int .u8 0, .int .u8 0, .int .u8 0, .int .u8 0, .int .u8 0, .int .u8 0, .int .u8 0, .int .u8 0, .int .u8 0, .int .u8 0, .int .u8 0, .int .u8 0, .slice none 0 0, .bool false, .int .u32 0, .int .i64 0, .bool false, .int .u8 0, .slice none 0 0]) hS rfl (by intro _ _; go_simp) ?_
    simp only [lay]
    refine te 1 (.pointer (some ⟨gr, 0, none⟩)) hS rfl (by intro _ _; exact rfl) ?_
    simp only [lay]
    refine te 2 (.pointer (some ⟨gr, 0, none⟩)) hS rfl (by intro _ _; exact ex_nilc (by exact rfl) (by exact rfl)) ?_
    simp only [lay]
    refine te 3 (.pointer (some ⟨gr, 3, none⟩)) hS rfl (by intro _ _; exact ex_field 3 0 (by exact rfl) Try.underlying156 (by exact rfl) rfl (by kernel_rfl) (by exact rfl)) ?_
    simp only [lay]
    refine te 4 (.int .i64 (k : Int)) hS rfl (by intro _ h; exact ex_cell (by exact rfl) Try.underlying3 rfl (by exact rfl) (h.1.cell 3 rfl)) ?_
    simp only [lay]
    refine te 5 (.pointer (some ⟨gr, 0, none⟩)) hS rfl (by intro _ _; exact rfl) ?_
    simp only [lay]
    refine te 6 (.pointer (some ⟨gr, 0, none⟩)) hS rfl (by intro _ _; exact ex_nilc (by exact rfl) (by exact rfl)) ?_
    simp only [lay]
    refine te 7 (.pointer (some ⟨gr, 2, none⟩)) hS rfl (by intro _ _; exact ex_field 2 0 (by exact rfl) Try.underlying156 (by exact rfl) rfl (by kernel_rfl) (by exact rfl)) ?_
    simp only [lay]
    refine te 8 (.int .i64 50) hS rfl (by intro _ h; exact ex_cell (by exact rfl) Try.underlying3 rfl (by exact rfl) (h.1.cell 2 rfl)) ?_
    simp only [lay]
    refine tk_store (i := 9) (cells := D6.cells zero6 pZ6) (by kernel_rfl) rfl (by kernel_rfl) rfl rfl rfl hVx v6_info rfl (D6.cells_one _ _) ⟨hS.1.setRow_other hgr4, below_setRow hS.2 (Nat.le_refl w.heap.size) _⟩ ?_
    simp only [lay]
    refine tk (i := 10) (.int .i64 (k : Int)) (show _ ∧ _ from ⟨hS.1.setRow_other hgr4, below_setRow hS.2 (Nat.le_refl w.heap.size) _⟩) rfl (by kernel_rfl) (by kernel_rfl) (by kernel_rfl) (fun _ _ _ h => h) (by kernel_rfl) (by intro _ _; exact rfl) ?_
    simp only [lay]
    refine tk (i := 11) (.int .i64 50) (show _ ∧ _ from ⟨hS.1.setRow_other hgr4, below_setRow hS.2 (Nat.le_refl w.heap.size) _⟩) rfl (by kernel_rfl) (by kernel_rfl) (by kernel_rfl) (fun _ _ _ h => h) (by kernel_rfl) (by intro _ _; exact rfl) ?_
    simp only [lay]
    refine wpAnyH_done (by kernel_rfl) ?_ _
    go_wp2
    have hgot : got6 false l = zero6 := by unfold got6; rw [hGe.out]; exact if_neg (by simp [bad6])
    rw [hgot, hGe.out]
    exact bodyPost_ret (res_cell3 Try.results84 rfl (hVx.setRow_same.load (P := Try.prog) 28 Try.underlying28 rfl v6_info) rfl rfl) rfl ⟨⟨pZ6, _, _, rfl, Lib.hid rfl, Lib.hid rfl, own6_zero _ _⟩, below_setRow hS.2 (Nat.le_refl w.heap.size) _⟩
   by_cases hs2 : N < k + 8 + g6len l k
   case pos =>
    have hGe : Hid (g6 false l = bad6 50 k) := Lib.hid (by
     obtain ⟨i1, i2, i3, i4, i5⟩ := hG1.out
     rw [hGd.out, ← i5, hmH.out, go6, if_neg (by rintro ⟨h, _⟩; rw [hx] at h; cases h), if_neg (by rw [hlH.out]; exact hs), if_neg h44, if_pos (by rw [hlH.out]; exact hs2)])
    go_wp2_with fail
    refine (rextra_any _ _).mono ?_
    rintro e w9 ⟨⟨q, rfl, hq⟩, hw9⟩
    obtain rfl : wr = w9 := hw9.symm
    obtain rfl : q = true := hq.out.trans hx
    clear hq
    clear hx hf
    go_wp2_with fail
    refine (rhead_short2 h hy hBr hBv hGr hGv hne hk kind (by omega) h44 hs2).mono ?_
    rintro e w5 ⟨rfl, h5⟩
    have hV := hV.below h5.bel (Nat.lt_succ_self _)
    have hBz := hBe.trans (h5.bel.mono (Nat.le_succ _))
    have hVx := hV.drew
    clear hG1 h c36
    go_wp2
    refine wp_region_held_drew (S := fun W => Has W gr (.cells (rdr (some ⟨b, o, none⟩) N c (k : Int) 50 (k : Int)) 156 (0, 0)) ∧ Below w.heap.size w W) (by kernel_rfl) (⟨h5.rd.drew, hBz.trans (below_drew _ _)⟩) (fun hS => ?_)
    refine te 0 (.agg #[.int .u8 0, .int .u32 0, .int .u8 0, .int .u8 0, .int .u8 0, .int .u8 0, .int .u8 0, .int .u8 0, .int .u8 0, .int .u8 0, .int .u8 0, .int .u8 0, .int .u8 0, .int .u8 0, .int .u8 0, .int .u8 0, .int .u8 0, .int .u8 0, .int .u8 0, .int .u8 0, .int .u8 0, .int .u8 0, .int .u8 0, .int .u8 0, .int .u8 0, .int .u8 0, .int .u8 0, .int .u8 0, .int .u8 0, .int .u8 0, .int .u8 0, .int .u8 0, .int .u8 0, .int .u8 0, .int .u8 0, .slice none 0 0, .bool false, .int .u32 0, .int .i64 0, .bool false, .int .u8 0, .slice none 0 0]) hS rfl (by intro _ _; go_simp) ?_
    simp only [lay]
    refine te 1 (.pointer (some ⟨gr, 0, none⟩)) hS rfl (by intro _ _; exact rfl) ?_
    simp only [lay]
    refine te 2 (.pointer (some ⟨gr, 0, none⟩)) hS rfl (by intro _ _; exact ex_nilc (by exact rfl) (by exact rfl)) ?_
    simp only [lay]
    refine te 3 (.pointer (some ⟨gr, 3, none⟩)) hS rfl (by intro _ _; exact ex_field 3 0 (by exact rfl) Try.underlying156 (by exact rfl) rfl (by kernel_rfl) (by exact rfl)) ?_
    simp only [lay]
    refine te 4 (.int .i64 (k : Int)) hS rfl (by intro _ h; exact ex_cell (by exact rfl) Try.underlying3 rfl (by exact rfl) (h.1.cell 3 rfl)) ?_
    simp only [lay]
    refine te 5 (.pointer (some ⟨gr, 0, none⟩)) hS rfl (by intro _ _; exact rfl) ?_
    simp only [lay]
    refine te 6 (.pointer (some ⟨gr, 0, none⟩)) hS rfl (by intro _ _; exact ex_nilc (by exact rfl) (by exact rfl)) ?_
    simp only [lay]
    refine te 7 (.pointer (some ⟨gr, 2, none⟩)) hS rfl (by intro _ _; exact ex_field 2 0 (by exact rfl) Try.underlying156 (by exact rfl) rfl (by kernel_rfl) (by exact rfl)) ?_
    simp only [lay]
    refine te 8 (.int .i64 50) hS rfl (by intro _ h; exact ex_cell (by exact rfl) Try.underlying3 rfl (by exact rfl) (h.1.cell 2 rfl)) ?_
    simp only [lay]
    refine tk_store (i := 9) (cells := D6.cells zero6 pZ6) (by kernel_rfl) rfl (by kernel_rfl) rfl rfl rfl hVx v6_info rfl (D6.cells_one _ _) ⟨hS.1.setRow_other hgr4, below_setRow hS.2 (Nat.le_refl w.heap.size) _⟩ ?_
    simp only [lay]
    refine tk (i := 10) (.int .i64 (k : Int)) (show _ ∧ _ from ⟨hS.1.setRow_other hgr4, below_setRow hS.2 (Nat.le_refl w.heap.size) _⟩) rfl (by kernel_rfl) (by kernel_rfl) (by kernel_rfl) (fun _ _ _ h => h) (by kernel_rfl) (by intro _ _; exact rfl) ?_
    simp only [lay]
    refine tk (i := 11) (.int .i64 50) (show _ ∧ _ from ⟨hS.1.setRow_other hgr4, below_setRow hS.2 (Nat.le_refl w.heap.size) _⟩) rfl (by kernel_rfl) (by kernel_rfl) (by kernel_rfl) (fun _ _ _ h => h) (by kernel_rfl) (by intro _ _; exact rfl) ?_
    simp only [lay]
    refine wpAnyH_done (by kernel_rfl) ?_ _
    go_wp2
    have hgot : got6 false l = zero6 := by unfold got6; rw [hGe.out]; exact if_neg (by simp [bad6])
    rw [hgot, hGe.out]
    exact bodyPost_ret (res_cell3 Try.results84 rfl (hVx.setRow_same.load (P := Try.prog) 28 Try.underlying28 rfl v6_info) rfl rfl) rfl ⟨⟨pZ6, _, _, rfl, Lib.hid rfl, Lib.hid rfl, own6_zero _ _⟩, below_setRow hS.2 (Nat.le_refl w.heap.size) _⟩
   by_cases hf3 : (kind = 0 ∧ 0 < D.hs.length) ∨ D.hs.length = 8
   case pos =>
    have hGe : Hid (g6 false l = bad6 53 k) := Lib.hid (by
     obtain ⟨i1, i2, i3, i4, i5⟩ := hG1.out
     rw [hGd.out, ← i5, hmH.out, go6, if_neg (by rintro ⟨h, _⟩; rw [hx] at h; cases h), if_neg (by rw [hlH.out]; exact hs), if_neg h44, if_neg (by rw [hlH.out]; exact hs2), if_pos hf3])
    go_wp2_with fail
    refine (rextra_any _ _).mono ?_
    rintro e w9 ⟨⟨q, rfl, hq⟩, hw9⟩
    obtain rfl : wr = w9 := hw9.symm
    obtain rfl : q = true := hq.out.trans hx
    clear hq
    clear hx hf
    go_wp2_with fail
    refine (rhead_full h hy hBr hBv hGr hGv hne hk kind (by omega) h44 (by omega) hf3).mono ?_
    rintro e w5 ⟨rfl, h5⟩
    have hV := hV.below h5.bel (Nat.lt_succ_self _)
    have hBz := hBe.trans (h5.bel.mono (Nat.le_succ _))
    have hVx := hV.drew
    clear hG1 h c36
    go_wp2
    refine wp_region_held_drew (S := fun W => Has W gr (.cells (rdr (some ⟨b, o, none⟩) N c (k : Int) 53 (k : Int)) 156 (0, 0)) ∧ Below w.heap.size w W) (by kernel_rfl) (⟨h5.rd.drew, hBz.trans (below_drew _ _)⟩) (fun hS => ?_)
    refine te 0 (.agg #[.int .u8 0, .int .u32 0, .int .u8 0, .int .u8 0, .int .u8 0, .int .u8 0, .int .u8 0, .int .u8 0, .int .u8 0, .int .u8 0, .int .u8 0, .int .u8 0, .int .u8 0, .int .u8 0, .int .u8 0, .int .u8 0, .int .u8 0, .int .u8 0, .int .u8 0, .int .u8 0, .int .u8 0, .int .u8 0, .int .u8 0, .int .u8 0, .int .u8 0, .int .u8 0, .int .u8 0, .int .u8 0, .int .u8 0, .int .u8 0, .int .u8 0, .int .u8 0, .int .u8 0, .int .u8 0, .int .u8 0, .slice none 0 0, .bool false, .int .u32 0, .int .i64 0, .bool false, .int .u8 0, .slice none 0 0]) hS rfl (by intro _ _; go_simp) ?_
    simp only [lay]
    refine te 1 (.pointer (some ⟨gr, 0, none⟩)) hS rfl (by intro _ _; exact rfl) ?_
    simp only [lay]
    refine te 2 (.pointer (some ⟨gr, 0, none⟩)) hS rfl (by intro _ _; exact ex_nilc (by exact rfl) (by exact rfl)) ?_
    simp only [lay]
    refine te 3 (.pointer (some ⟨gr, 3, none⟩)) hS rfl (by intro _ _; exact ex_field 3 0 (by exact rfl) Try.underlying156 (by exact rfl) rfl (by kernel_rfl) (by exact rfl)) ?_
    simp only [lay]
    refine te 4 (.int .i64 (k : Int)) hS rfl (by intro _ h; exact ex_cell (by exact rfl) Try.underlying3 rfl (by exact rfl) (h.1.cell 3 rfl)) ?_
    simp only [lay]
    refine te 5 (.pointer (some ⟨gr, 0, none⟩)) hS rfl (by intro _ _; exact rfl) ?_
    simp only [lay]
    refine te 6 (.pointer (some ⟨gr, 0, none⟩)) hS rfl (by intro _ _; exact ex_nilc (by exact rfl) (by exact rfl)) ?_
    simp only [lay]
    refine te 7 (.pointer (some ⟨gr, 2, none⟩)) hS rfl (by intro _ _; exact ex_field 2 0 (by exact rfl) Try.underlying156 (by exact rfl) rfl (by kernel_rfl) (by exact rfl)) ?_
    simp only [lay]
    refine te 8 (.int .i64 53) hS rfl (by intro _ h; exact ex_cell (by exact rfl) Try.underlying3 rfl (by exact rfl) (h.1.cell 2 rfl)) ?_
    simp only [lay]
    refine tk_store (i := 9) (cells := D6.cells zero6 pZ6) (by kernel_rfl) rfl (by kernel_rfl) rfl rfl rfl hVx v6_info rfl (D6.cells_one _ _) ⟨hS.1.setRow_other hgr4, below_setRow hS.2 (Nat.le_refl w.heap.size) _⟩ ?_
    simp only [lay]
    refine tk (i := 10) (.int .i64 (k : Int)) (show _ ∧ _ from ⟨hS.1.setRow_other hgr4, below_setRow hS.2 (Nat.le_refl w.heap.size) _⟩) rfl (by kernel_rfl) (by kernel_rfl) (by kernel_rfl) (fun _ _ _ h => h) (by kernel_rfl) (by intro _ _; exact rfl) ?_
    simp only [lay]
    refine tk (i := 11) (.int .i64 53) (show _ ∧ _ from ⟨hS.1.setRow_other hgr4, below_setRow hS.2 (Nat.le_refl w.heap.size) _⟩) rfl (by kernel_rfl) (by kernel_rfl) (by kernel_rfl) (fun _ _ _ h => h) (by kernel_rfl) (by intro _ _; exact rfl) ?_
    simp only [lay]
    refine wpAnyH_done (by kernel_rfl) ?_ _
    go_wp2
    have hgot : got6 false l = zero6 := by unfold got6; rw [hGe.out]; exact if_neg (by simp [bad6])
    rw [hgot, hGe.out]
    exact bodyPost_ret (res_cell3 Try.results84 rfl (hVx.setRow_same.load (P := Try.prog) 28 Try.underlying28 rfl v6_info) rfl rfl) rfl ⟨⟨pZ6, _, _, rfl, Lib.hid rfl, Lib.hid rfl, own6_zero _ _⟩, below_setRow hS.2 (Nat.le_refl w.heap.size) _⟩
   have hG2 : Hid (m + (D.hs.length + 1) = 9 ∧ D.frag = false ∧ D.id = 0 ∧ D.off = 0 ∧ D.more = false ∧ go6 l m (k + 8 + g6len l k) (l.getD k 0) (D.hs ++ [(kind, (l.drop (k + 2)).take (6 + g6len l k))]) = G) := Lib.hid (by
    obtain ⟨i1, i2, i3, i4, i5⟩ := hG1.out
    rw [hmH.out, go6, if_neg (by rintro ⟨h, _⟩; rw [hx] at h; cases h), if_neg (by rw [hlH.out]; exact hs), if_neg h44, if_neg (by rw [hlH.out]; exact hs2), if_neg hf3] at i5
    have := hmH.out
    exact ⟨by omega, hf, i1, i2, i3, i5⟩)
   go_wp2_with fail
   refine (rextra_any _ _).mono ?_
   rintro e w9 ⟨⟨q, rfl, hq⟩, hw9⟩
   obtain rfl : wr = w9 := hw9.symm
   obtain rfl : q = true := hq.out.trans hx
   clear hq
   clear hG1 hx hf
   go_wp2_with fail
   refine (rhead_ok h hy hBr hBv hGr hGv hne hk kind (by omega) h44 (by omega) hf3 h8 hkr (by omega) (by omega) h.rd.lt).mono ?_
   rintro e w5 ⟨⟨q, rfl, hq⟩, hGw5, p', h5⟩
   clear c36
   go_wp2
   go_roundw
   case rel =>
    obtain ⟨j1, j0, j2, j3, j4, j5⟩ := hG2.out
    refine ⟨m, k + 8 + g6len l k, q, _, p', rfl, h5, hGw5, by rw [hq.out]; exact getD_byte hlr k, by omega, ?_, Lib.hid hfl1.out, Lib.hid (.inl ⟨j0, j2, j3, j4, ?_, by rw [hq.out]; exact j5⟩)⟩
    ·show (D.hs ++ [_]).length ≤ 8
     rw [List.length_append, List.length_singleton]
     omega
    ·show m + (D.hs ++ [_]).length = 9
     rw [List.length_append, List.length_singleton]
     exact j1
   case measure => rw [h5.atOf, hm0]; omega
end Go.Proofs.Ytjnphelfloiadaa
