/-
  Lemmas and walks for the row of TosixPackets (part 9 of 45).
-/
import Derived.Test.YtijnifbpbgckgaaTpAF
import Derived.Test.YtijnifbpbgckgaaTpAG
import Derived.Test.YtijnifbpbgckgaaTpAH
set_option linter.unusedVariables false
set_option linter.unusedSimpArgs false
namespace Go.Proofs.Ytijnifbpbgckgaa
open Go.RowKit Go.Shelf

/-- a slice literal is a row of the call's own -/
theorem OwnB.lit {w : World} {base g n : Nat} {l : List Int} (h : Has w g (.cells (u8s l).toArray 5 (0, 0))) (hb : base ≤ g) (hn : n = l.length) (hl : InB l) (h63 : l.length ≤ 9223372036854775807) : OwnB w base (.slice (some ⟨g, 0, none⟩) n n) l := by
 subst hn
 refine ⟨⟨by rw [u8s_length, Nat.mul_one], .inr ⟨g, l.length, (u8s l).toArray, rfl, hb, h, Nat.le_refl _, h63, by rw [Nat.mul_one]; simp [u8s], ?_⟩⟩, hl⟩
 rw [Nat.mul_one, List.take_of_length_le (by simp [u8s])]

set_option maxRecDepth 100000 in
set_option maxHeartbeats 8000000 in
theorem rwrite6_ok (d : D6) (p : W6) (w : World) (hR : Rd6 w.heap.size w d p) (h0 : d.check = 0) :
  Calls Try.prog 57 #[.agg (d.cells p)] w fun e w' => ∃ v, e = .returned (.tuple #[v, .int .i64 0]) ∧ OwnB w' w.heap.size v d.bytes ∧ Below w.heap.size w w' := by
 obtain ⟨hA, hc, ps, bA, bc⟩ := p
 have hB : Below w.heap.size w (w.alloc (.cells (d.cells ⟨hA, hc, ps, bA, bc⟩) 36)) := (Below.refl _ _).alloc (Nat.le_refl _) _
 have hH : Has (w.alloc (.cells (d.cells ⟨hA, hc, ps, bA, bc⟩) 36)) w.heap.size (.cells (d.cells ⟨hA, hc, ps, bA, bc⟩) 36 (0, 0)) := Has.newAt rfl
 obtain ⟨W1, hW1⟩ : ∃ W, w.alloc (.cells (d.cells ⟨hA, hc, ps, bA, bc⟩) 36) = W := ⟨_, rfl⟩
 rw [hW1] at hB hH
 have hR1 := (hR.below hB (Nat.le_refl _)).more hB.size
 obtain ⟨hr, hle⟩ := D6.ok_of_check h0
 obtain ⟨r1, r2, r3, r4⟩ := D6.right_true hr
 obtain ⟨hsm, ha2, ha3⟩ := D6.ahead_le hr
 have hz : (d.cells ⟨hA, hc, ps, bA, bc⟩).size = 42 := rfl
 have hc1 := Lib.hid (rcheck6_any d ⟨hA, hc, ps, bA, bc⟩ W1 hR1)
 have h0H := Lib.hid h0
 have r3H := Lib.hid r3
 have r4H := Lib.hid r4
 obtain ⟨X, hX⟩ : ∃ X, d.ahead = X := ⟨_, rfl⟩
 obtain ⟨BL, hBL⟩ : ∃ BL, d.bl.length = BL := ⟨_, rfl⟩
 obtain ⟨N, hN⟩ : ∃ N, d.plen = N := ⟨_, rfl⟩
 have hNX : N = BL + (X - 40) := by rw [← hN, D6.plen, hX, hBL]
 rw [hX] at ha2 ha3 hle
 rw [hBL] at hle
 have hXH := Lib.hid hX
 have hNH := Lib.hid hN
 have hBLH := Lib.hid hBL
 have hN65 : N ≤ 65535 := by omega
 have hsmH := Lib.hid hsm
 have c41 : ∀ W, Below W1.heap.size W1 W → W.cell? ⟨w.heap.size, 41, none⟩ = some (.slice bA BL bc) := fun W h => by
  rw [← hBL]
  exact (hH.below h hH.lt).cell 41 rfl
 obtain ⟨M, hM⟩ : ∃ M, d.hs.length = M := ⟨_, rfl⟩
 have c35 : ∀ W, Below W1.heap.size W1 W → W.cell? ⟨w.heap.size, 35, none⟩ = some (.slice hA M hc) := fun W h => by
  rw [← hM]
  exact (hH.below h hH.lt).cell 35 rfl
 have hMH := Lib.hid hM
 rw [hM] at r2
 obtain ⟨n0, hn0⟩ : ∃ n0, nxt d.last d.hs = n0 := ⟨_, rfl⟩
 have hcls := hR.ok.cls
 have hlab := hR.ok.lab
 have hop := hR.ok.hop
 have hsL := hR.ok.srcL
 have hdL := hR.ok.dstL
 have hrng : ∀ x ∈ d.hs, 0 ≤ x.1 ∧ x.1 ≤ 255 ∧ InB x.2 := by
  have h := hR.hd.rng
  rw [show kdL _ = d.hs from hR.hl] at h
  exact h
 have hn0r : 0 ≤ n0 ∧ n0 ≤ 255 := by rw [← hn0]; exact nxt_rng (D6.last_rng hR.ok) hrng
 have hrngH := Lib.hid hrng
 have hn0H := Lib.hid hn0
 clear hrng hn0 hM hBL hN hX h0 hr r3 r4 hsm
 go_enter Try.func57, Try.ntmps57
 go_wp2_with (refine wpList_load_row rfl 36 (.tmp 1) rfl w.heap.size rfl 36 (d.cells ⟨hA, hc, ps, bA, bc⟩) (0, 0) _ hH Try.underlying36 rfl v6_info ?_)
 refine hc1.out.mono ?_
 rintro e w1 ⟨⟨q, rfl, hq⟩, hb1⟩
 obtain rfl : q = 0 := hq.out.trans h0H.out
 clear hq hc1 hW1
 go_wp2
 refine wp_region_held_drew (S := fun W => Below W1.heap.size W1 W) (by kernel_rfl) (hb1.trans (below_drew _ _)) (fun hS => ?_)
 refine te 0 (.agg (d.cells ⟨hA, hc, ps, bA, bc⟩)) hS rfl (by intro _ h; exact ex_load (by exact rfl) (by exact rfl) (((hH.below h hH.lt)).load (P := Try.prog) 36 Try.underlying36 rfl v6_info)) ?_
 simp only [lay]
 refine te 3 (.pointer (some ⟨w.heap.size, 41, none⟩)) hS rfl (by intro _ _; exact ex_field 41 0 (by exact rfl) Try.underlying36 (by exact rfl) rfl (by kernel_rfl) (by exact rfl)) ?_
 simp only [lay]
 refine te 4 (.slice bA BL bc) hS rfl (by intro _ h; exact ex_cell (by exact rfl) Try.underlying25 rfl (by exact rfl) (c41 _ h)) ?_
 simp only [lay]
 refine te 5 (.int .i64 (BL : Int)) hS rfl (by intro _ _; exact ex_len (by exact rfl) Try.underlying25 (by exact rfl)) ?_
 simp only [lay]
 refine tk_one (by kernel_rfl) (op_callx (i := 1) (fun v _ => ∃ q : Int, v = .int .i64 q ∧ Hid (q = d.ahead)) rfl (by kernel_rfl) (by exact ex_call (by exact rfl) Try.func64 (by kernel_rfl) (by kernel_rfl) (by simp only [List.map_toArray, List.map_cons, List.map_nil] <;> rfl)) ((rheads_any d ⟨hA, hc, ps, bA, bc⟩ _ ((hR1.below hS (Nat.le_refl _)).more (Below.size hS)) hsmH.out).mono (fun e w' ⟨⟨q, he, hq⟩, hb⟩ => ⟨_, he, ⟨q, rfl, hq⟩, hS.trans (hb.mono (Below.size hS))⟩)) ?_)
 rintro v W3 ⟨q, rfl, hq⟩ hS3
 obtain rfl : q = (X : Int) := hq.out.trans (by rw [hXH.out])
 clear hq
 simp only [lay]
 refine te 2 (.int .i64 ((X : Int) - 40)) hS3 rfl (by intro _ _; exact ex_bin (by exact rfl) (by exact rfl) (by exact rfl) (by decide) (b_sub _ _ rfl (by omega) _)) ?_
 simp only [lay]
 refine te 6 (.int .i64 (N : Int)) hS3 rfl (by intro _ _; exact ex_bin (by exact rfl) (by exact rfl) (by exact rfl) (by decide) (b_add _ _ (by omega) (by omega) _)) ?_
 simp only [lay]
 refine te 7 (.int .i64 (N : Int)) hS3 rfl (by intro _ _; exact rfl) ?_
 simp only [lay]
 refine wpAnyH_done (by kernel_rfl) ?_ _
 clear hNX
 go_wp2
 refine wp_region_held_drew (S := fun W => Below W1.heap.size W1 W) (by kernel_rfl) (hS3.trans (below_drew _ _)) (fun hS => ?_)
 refine te 0 (.pointer (some ⟨w.heap.size, 0, none⟩)) hS rfl (by intro _ _; exact ex_field 0 0 (by exact rfl) Try.underlying36 (by exact rfl) rfl (by kernel_rfl) (by exact rfl)) ?_
 simp only [lay]
 refine te 1 (.int .u8 d.cls) hS rfl (by intro _ h; exact ex_cell (by exact rfl) Try.underlying5 rfl (by exact rfl) ((hH.below h hH.lt).cell 0 rfl)) ?_
 simp only [lay]
 refine te 2 (.int .u8 (d.cls / 16)) hS rfl (by intro _ _; exact ex_bin (by exact rfl) (by exact rfl) (by exact rfl) (by decide) (b_quo16 _ hcls _)) ?_
 simp only [lay]
 refine te 3 (.int .u8 (96 + d.cls / 16)) hS rfl (by intro _ _; exact ex_bin (by exact rfl) (by exact rfl) (by exact rfl) (by decide) (b_add8 _ _ rfl (by omega) _)) ?_
 simp only [lay]
 refine te 4 (.pointer (some ⟨w.heap.size, 0, none⟩)) hS rfl (by intro _ _; exact ex_field 0 0 (by exact rfl) Try.underlying36 (by exact rfl) rfl (by kernel_rfl) (by exact rfl)) ?_
 simp only [lay]
 refine te 5 (.int .u8 d.cls) hS rfl (by intro _ h; exact ex_cell (by exact rfl) Try.underlying5 rfl (by exact rfl) ((hH.below h hH.lt).cell 0 rfl)) ?_
 simp only [lay]
 refine te 6 (.int .u8 (d.cls % 16)) hS rfl (by intro _ _; exact ex_bin (by exact rfl) (by exact rfl) (by exact rfl) (by decide) (b_rem16 _ hcls _)) ?_
 simp only [lay]
 refine te 7 (.int .u8 (d.cls % 16 * 16)) hS rfl (by intro _ _; exact ex_bin (by exact rfl) (by exact rfl) (by exact rfl) (by decide) (b_mul8 _ _ rfl (by omega) _)) ?_
 simp only [lay]
 refine te 8 (.pointer (some ⟨w.heap.size, 1, none⟩)) hS rfl (by intro _ _; exact ex_field 1 0 (by exact rfl) Try.underlying36 (by exact rfl) rfl (by kernel_rfl) (by exact rfl)) ?_
 simp only [lay]
 refine te 9 (.int .u32 d.lab) hS rfl (by intro _ h; exact ex_cell (by exact rfl) Try.underlying33 rfl (by exact rfl) ((hH.below h hH.lt).cell 1 rfl)) ?_
 simp only [lay]
 refine te 10 (.int .u32 (d.lab / 65536)) hS rfl (by intro _ _; exact ex_bin (by exact rfl) (by exact rfl) (by exact rfl) (by decide) (b_quo32 _ _ rfl (by omega) (by decide) _)) ?_
 simp only [lay]
 refine te 11 (.int .u8 (d.lab / 65536)) hS rfl (by intro _ h; exact ex_conv (by exact rfl) (by exact rfl) (conv_u8' _ _ _ _ rfl rfl (by omega) _)) ?_
 simp only [lay]
 refine te 12 (.int .u8 (d.cls % 16 * 16 + d.lab / 65536)) hS rfl (by intro _ _; exact ex_bin (by exact rfl) (by exact rfl) (by exact rfl) (by decide) (b_add8 _ _ rfl (by omega) _)) ?_
 simp only [lay]
 refine te 13 (.pointer (some ⟨w.heap.size, 1, none⟩)) hS rfl (by intro _ _; exact ex_field 1 0 (by exact rfl) Try.underlying36 (by exact rfl) rfl (by kernel_rfl) (by exact rfl)) ?_
 simp only [lay]
 refine te 14 (.int .u32 d.lab) hS rfl (by intro _ h; exact ex_cell (by exact rfl) Try.underlying33 rfl (by exact rfl) ((hH.below h hH.lt).cell 1 rfl)) ?_
 simp only [lay]
 refine te 15 (.int .u32 (d.lab / 256)) hS rfl (by intro _ _; exact ex_bin (by exact rfl) (by exact rfl) (by exact rfl) (by decide) (b_quo32 _ _ rfl (by omega) (by decide) _)) ?_
 simp only [lay]
 refine te 16 (.int .u8 (d.lab / 256 % 256)) hS rfl (by intro _ h; exact ex_conv (by exact rfl) (by exact rfl) (conv_u8 _ _ _ _ rfl rfl _)) ?_
 simp only [lay]
 refine te 17 (.pointer (some ⟨w.heap.size, 1, none⟩)) hS rfl (by intro _ _; exact ex_field 1 0 (by exact rfl) Try.underlying36 (by exact rfl) rfl (by kernel_rfl) (by exact rfl)) ?_
 simp only [lay]
 refine te 18 (.int .u32 d.lab) hS rfl (by intro _ h; exact ex_cell (by exact rfl) Try.underlying33 rfl (by exact rfl) ((hH.below h hH.lt).cell 1 rfl)) ?_
 simp only [lay]
 refine te 19 (.int .u8 (d.lab % 256)) hS rfl (by intro _ h; exact ex_conv (by exact rfl) (by exact rfl) (conv_u8 _ _ _ _ rfl rfl _)) ?_
 simp only [lay]
 refine te 20 (.int .i64 (N : Int)) hS rfl (by intro _ _; exact rfl) ?_
 simp only [lay]
 refine te 21 (.int .i64 ((N : Int) / 256)) hS rfl (by intro _ _; exact ex_bin (by exact rfl) (by exact rfl) (by exact rfl) (by decide) (b_quo _ _ rfl (by omega) (by decide) _)) ?_
 simp only [lay]
 refine te 22 (.int .u8 ((N : Int) / 256)) hS rfl (by intro _ h; exact ex_conv (by exact rfl) (by exact rfl) (conv_u8' _ _ _ _ rfl rfl (by omega) _)) ?_
 simp only [lay]
 refine te 23 (.int .i64 (N : Int)) hS rfl (by intro _ _; exact rfl) ?_
 simp only [lay]
 refine te 24 (.int .u8 ((N : Int) % 256)) hS rfl (by intro _ h; exact ex_conv (by exact rfl) (by exact rfl) (conv_u8 _ _ _ _ rfl rfl _)) ?_
 simp only [lay]
 refine te 25 (.agg (d.cells ⟨hA, hc, ps, bA, bc⟩)) hS rfl (by intro _ h; exact ex_load (by exact rfl) (by exact rfl) (((hH.below h hH.lt)).load (P := Try.prog) 36 Try.underlying36 rfl v6_info)) ?_
 simp only [lay]
 refine te 27 (.pointer (some ⟨w.heap.size, 2, none⟩)) hS rfl (by intro _ _; exact ex_field 2 0 (by exact rfl) Try.underlying36 (by exact rfl) rfl (by kernel_rfl) (by exact rfl)) ?_
 simp only [lay]
 refine te 28 (.int .u8 d.hop) hS rfl (by intro _ h; exact ex_cell (by exact rfl) Try.underlying5 rfl (by exact rfl) ((hH.below h hH.lt).cell 2 rfl)) ?_
 simp only [lay]
 refine tk_one (by kernel_rfl) (op_callx (i := 26) (fun v _ => ∃ q : Int, v = .int .u8 q ∧ Hid (q = nxt d.last (d.hs.drop 0))) rfl (by kernel_rfl) (by exact ex_call (by exact rfl) Try.func90 (by kernel_rfl) (by kernel_rfl) (by simp only [List.map_toArray, List.map_cons, List.map_nil] <;> rfl)) ((next_any d ⟨hA, hc, ps, bA, bc⟩ _ ((hR1.below hS (Nat.le_refl _)).more (Below.size hS)) 0 (Nat.zero_le _)).mono (fun e w' ⟨⟨q, he, hq⟩, hb⟩ => ⟨_, he, ⟨q, rfl, hq⟩, hS.trans (hb.mono (Below.size hS))⟩)) ?_)
 rintro v W4 ⟨q, rfl, hq⟩ hS4
 obtain rfl : n0 = q := (hq.out.trans (by rw [List.drop_zero, hn0H.out])).symm
 clear hq
 simp only [lay]
 refine tk_one (by kernel_rfl) (op_build (i := 29) (u8s [96 + d.cls / 16, d.cls % 16 * 16 + d.lab / 65536, d.lab / 256 % 256, d.lab % 256, (N : Int) / 256, (N : Int) % 256, n0, d.hop]) rfl (by kernel_rfl) rfl Try.underlying25 (by kernel_rfl) (by kernel_rfl) rfl (by decide) (by decide) (by first | rfl | (simp only [List.map_toArray, List.map_cons, List.map_nil] <;> rfl)) (u8s_cells _) (fun _ hb => hS4.trans (hb.mono (Below.size hS4))) ?_)
 intro g6 W6 hQ6 hge6 hsz6 hb6 hS6
 simp only [lay]
 refine te 30 (.slice (some ⟨g6, 0, none⟩) 8 8) hS6 rfl (by intro _ _; exact rfl) ?_
 simp only [lay]
 refine wpAnyH_done (by kernel_rfl) ?_ _
 go_wp2
 have hFrng : InB [96 + d.cls / 16, d.cls % 16 * 16 + d.lab / 65536, d.lab / 256 % 256, d.lab % 256, (N : Int) / 256, (N : Int) % 256, n0, d.hop] := by
  intro x hx
  simp only [List.mem_cons, List.not_mem_nil, or_false] at hx
  rcases hx with rfl | rfl | rfl | rfl | rfl | rfl | rfl | rfl <;> omega
 obtain ⟨F, hF⟩ : ∃ F, [96 + d.cls / 16, d.cls % 16 * 16 + d.lab / 65536, d.lab / 256 % 256, d.lab % 256, (N : Int) / 256, (N : Int) % 256, n0, d.hop] = F := ⟨_, rfl⟩
 have hF8 : F.length = 8 := by rw [← hF]; rfl
 rw [hF] at hQ6 hFrng
 have hFd : Hid (F = d.first) := Lib.hid (by rw [← hF, D6.first, hn0H.out, hNH.out])
 have o6 := (OwnB.lit (base := W1.heap.size) hQ6 (Nat.le_trans (Below.size hS4) hge6) hF8.symm hFrng (by omega)).drew
 have yS := d.srcBy hH hR.ok
 have yD := d.dstBy hH hR.ok
 clear hF hFrng hQ6 hb6 hsz6 hge6
 refine wp_region_held_drew (S := fun W => Below W1.heap.size W1 W) (by kernel_rfl) (hS6.trans (below_drew _ _)) (fun hS => ?_)
 refine te 0 (.slice (some ⟨g6, 0, none⟩) 8 8) hS rfl (by intro _ _; exact rfl) ?_
 simp only [lay]
 refine te 1 (.pointer (some ⟨w.heap.size, 3, none⟩)) hS rfl (by intro _ _; exact ex_field 3 15 (by exact rfl) Try.underlying36 (by exact rfl) rfl (by kernel_rfl) (by exact rfl)) ?_
 simp only [lay]
 refine te 2 (.slice (some ⟨w.heap.size, 3, none⟩) 16 16) hS rfl (by intro _ _; exact ex_arr (by exact rfl) Try.underlying29 (by kernel_rfl) (by exact rfl)) ?_
 simp only [lay]
 refine te 4 (.pointer (some ⟨w.heap.size, 19, none⟩)) hS rfl (by intro _ _; exact ex_field 19 15 (by exact rfl) Try.underlying36 (by exact rfl) rfl (by kernel_rfl) (by exact rfl)) ?_
 simp only [lay]
 refine te 5 (.slice (some ⟨w.heap.size, 19, none⟩) 16 16) hS rfl (by intro _ _; exact ex_arr (by exact rfl) Try.underlying29 (by kernel_rfl) (by exact rfl)) ?_
 simp only [lay]
 refine tk_one (by kernel_rfl) (op_app (i := 3) (.tmp 51) (.tmp 53) _ rfl (by kernel_rfl) rfl Try.underlying25 infoB W1.heap.size _ _ rfl o6 _ _ _ _ _ rfl (yS.below hS (Nat.le_refl _)) (by rw [hF8]; decide) (Below.size hS) (fun _ hb => hS.trans hb) ?_)
 intro v7 W7 o7 _ hS7
 simp only [lay]
 refine tk_one (by kernel_rfl) (op_app (i := 6) (.tmp 54) (.tmp 56) _ rfl (by kernel_rfl) rfl Try.underlying25 infoB W1.heap.size _ _ rfl o7 _ _ _ _ _ rfl (yD.below hS7 (Nat.le_refl _)) (by rw [List.length_append, hF8, hsL]; decide) (Below.size hS7) (fun _ hb => hS7.trans hb) ?_)
 intro v8 W8 o8 _ hS8
 simp only [lay]
 refine te 7 (v8) hS8 rfl (by intro _ _; exact rfl) ?_
 simp only [lay]
 refine wpAnyH_done (by kernel_rfl) ?_ _
 have hpre : F ++ d.src ++ d.dst = d.pre := by rw [hFd.out]; rfl
 rw [hpre] at o8
 have hHBl : Hid ((d.pre ++ hb d.last d.hs).length ≤ 16424) := Lib.hid (by rw [List.length_append, d.pre_len hR.ok, hb_len]; have := hsmH.out; omega)
 have hlast := D6.last_rng hR.ok
 have hMn := hR.hd.len
 dsimp only at hMn
 rw [hMH.out] at hMn
 clear hS7 hS6 hS4 hS3 yS yD hpre hF8 hFd hn0r o6 o7 hS
 go_wp2
 go_loopw [6, 7] (fun bv i wr => ∃ (k : Nat) (T : List Int), k ≤ M ∧ i = .int .i64 k ∧ OwnB wr W1.heap.size bv T ∧ Hid (T ++ hb d.last (d.hs.drop k) = d.pre ++ hb d.last d.hs) ∧ Below W1.heap.size W1 wr) (fun _ i _ => M - (intOf i).toNat)
 case atStart => exact ⟨0, d.pre, Nat.zero_le _, rfl, o8, Lib.hid (by rw [List.drop_zero]), hS8⟩
 case round =>
 obtain ⟨k, T, hk, rfl, hO, hT, hBr⟩ := hrel
 rename_i wr _
 have hTl : T.length ≤ 16424 := by
  have h1 := congrArg List.length hT.out
  rw [List.length_append] at h1
  have := hHBl.out
  omega
 have c35r := c35 _ hBr
 clear hS8 o8
 by_cases hkM : k < M
 case neg =>
  have hge : ¬ ((k : Int) < (M : Int)) := by omega
  have hTe : Hid (T = d.pre ++ hb d.last d.hs) := Lib.hid (by rw [← hT.out, List.drop_of_length_le (by rw [hMH.out]; omega)]; simp [hb])
  have hH3 := hH.below hBr hH.lt
  have c36 := hH3.cell 36 (v := .bool d.frag) rfl
  have c41r := c41 _ hBr
  have yB := hR1.body.below hBr (Nat.le_refl _)
  dsimp only at yB
  rw [hBLH.out] at yB
  obtain ⟨TL, hTL⟩ : ∃ TL, T.length = TL := ⟨_, rfl⟩
  rw [hTL] at hTl
  have hTLH := Lib.hid hTL
  clear hT hTL hHBl c35 hkM
  cases hf : d.frag with
  | false =>
   rw [hf] at c36
   have hby : Hid (T ++ d.bl = d.bytes) := Lib.hid (by rw [hTe.out, D6.bytes, D6.fb, hf]; simp)
   clear hf hTe
   go_wp2_with (at_builtin; refine wpList_appB _ rfl _ _ 25 rfl Try.underlying25 infoB W1.heap.size _ _ rfl hO _ _ BL bc d.bl rfl yB (by rw [hTLH.out]; omega) (Below.size hBr) ?_; intro v9 w9 o9 hg9 _; have hb9 := below_own hO.own hg9 (Below.size hBr))
   go_ret2
   rw [hby.out] at o9
   exact ⟨_, rfl, o9.more hB.size, hB.trans ((hBr.trans hb9).mono hB.size)⟩
  | true =>
   rw [hf] at c36
   have c37 := hH3.cell 37 (v := .int .u32 d.id) rfl
   have c38 := hH3.cell 38 (v := .int .i64 d.off) rfl
   have c39 := hH3.cell 39 (v := .bool d.more) rfl
   have c40 := hH3.cell 40 (v := .int .u8 d.pro) rfl
   have hoff : 0 ≤ d.off ∧ d.off ≤ 8191 := by have h := r4H.out; unfold D6.tail at h; rw [if_pos hf] at h; exact of_decide_eq_true h
   have hid := hR.ok.id
   have hpro := hR.ok.pro
   have td : d.off.tdiv 32 = d.off / 32 := Int.tdiv_eq_ediv_of_nonneg hoff.1
   have tm : d.off.tmod 32 = d.off % 32 := Int.tmod_eq_emod_of_nonneg hoff.1
   cases hm : d.more with
   | false =>
    rw [hm] at c39
    have hby : Hid (T ++ [d.pro, 0, d.off / 32, d.off % 32 * 8, d.id / 16777216, d.id / 65536 % 256, d.id / 256 % 256, d.id % 256] ++ d.bl = d.bytes) := Lib.hid (by
     have e : [d.pro, 0, d.off / 32, d.off % 32 * 8, d.id / 16777216, d.id / 65536 % 256, d.id / 256 % 256, d.id % 256] = d.fb := by
      rw [D6.fb, if_pos hf, hm]
      simp
     rw [e, hTe.out, D6.bytes])
    have hin : InB [d.pro, 0, d.off / 32, d.off % 32 * 8, d.id / 16777216, d.id / 65536 % 256, d.id / 256 % 256, d.id % 256] := by
     intro x hx
     simp only [List.mem_cons, List.not_mem_nil, or_false] at hx
     rcases hx with rfl | rfl | rfl | rfl | rfl | rfl | rfl | rfl <;> omega
    have o1 := hO.alloc (.cells #[.int .u8 (d.pro), .int .u8 (0), .int .u8 (d.off / 32), .int .u8 (d.off % 32 * 8), .int .u8 (d.id / 16777216), .int .u8 (d.id / 65536 % 256), .int .u8 (d.id / 256 % 256), .int .u8 (d.id % 256)] 5)
    have y1 : By (wr.heap.size + 1) (wr.alloc (.cells #[.int .u8 (d.pro), .int .u8 (0), .int .u8 (d.off / 32), .int .u8 (d.off % 32 * 8), .int .u8 (d.id / 16777216), .int .u8 (d.id / 65536 % 256), .int .u8 (d.id / 256 % 256), .int .u8 (d.id % 256)] 5)) (some ⟨wr.heap.size, 0, none⟩) 8 8 [d.pro, 0, d.off / 32, d.off % 32 * 8, d.id / 16777216, d.id / 65536 % 256, d.id / 256 % 256, d.id % 256] := By.new wr 5 [d.pro, 0, d.off / 32, d.off % 32 * 8, d.id / 16777216, d.id / 65536 % 256, d.id / 256 % 256, d.id % 256] hin (show 8 ≤ 9223372036854775807 by decide)
    have hB1 := hBr.trans (((Below.refl wr.heap.size wr).alloc (Nat.le_refl _) (.cells #[.int .u8 (d.pro), .int .u8 (0), .int .u8 (d.off / 32), .int .u8 (d.off % 32 * 8), .int .u8 (d.id / 16777216), .int .u8 (d.id / 65536 % 256), .int .u8 (d.id / 256 % 256), .int .u8 (d.id % 256)] 5)).mono hBr.size)
    clear hf hTe hm hin
    go_wp2_with (first | (at_builtin; refine wpList_appB _ rfl _ _ 25 rfl Try.underlying25 infoB W1.heap.size _ _ rfl o1 _ _ 8 8 [d.pro, 0, d.off / 32, d.off % 32 * 8, d.id / 16777216, d.id / 65536 % 256, d.id / 256 % 256, d.id % 256] rfl y1 (by rw [hTLH.out]; omega) (Below.size hB1) ?_; intro v7 w7 o7 hg7 _; have hb7 := below_own (OwnB.own o1) hg7 (Below.size hB1); have hB7 := hB1.trans hb7; have c41r := c41 _ hB7; have yB7 := (hR1.body.below hB7 (Nat.le_refl _)); dsimp only at yB7; rw [hBLH.out] at yB7) | (at_builtin; refine wpList_appB _ rfl _ _ 25 rfl Try.underlying25 infoB W1.heap.size _ _ rfl o7 _ _ BL bc d.bl rfl yB7 (by rw [List.length_append, hTLH.out]; show TL + 8 + BL ≤ _; omega) (Below.size hB7) ?_; intro v9 w9 o9 hg9 _; have hb9 := below_own (OwnB.own o7) hg9 (Below.size hB7)))
    go_ret2
    rw [hby.out] at o9
    exact ⟨_, rfl, o9.more hB.size, hB.trans ((hB7.trans hb9).mono hB.size)⟩
   | true =>
    rw [hm] at c39
    have hby : Hid (T ++ [d.pro, 0, d.off / 32, d.off % 32 * 8 + 1, d.id / 16777216, d.id / 65536 % 256, d.id / 256 % 256, d.id % 256] ++ d.bl = d.bytes) := Lib.hid (by
     have e : [d.pro, 0, d.off / 32, d.off % 32 * 8 + 1, d.id / 16777216, d.id / 65536 % 256, d.id / 256 % 256, d.id % 256] = d.fb := by
      rw [D6.fb, if_pos hf, hm]
      simp
     rw [e, hTe.out, D6.bytes])
    have hin : InB [d.pro, 0, d.off / 32, d.off % 32 * 8 + 1, d.id / 16777216, d.id / 65536 % 256, d.id / 256 % 256, d.id % 256] := by
     intro x hx
     simp only [List.mem_cons, List.not_mem_nil, or_false] at hx
     rcases hx with rfl | rfl | rfl | rfl | rfl | rfl | rfl | rfl <;> omega
    have o1 := hO.alloc (.cells #[.int .u8 (d.pro), .int .u8 (0), .int .u8 (d.off / 32), .int .u8 (d.off % 32 * 8 + 1), .int .u8 (d.id / 16777216), .int .u8 (d.id / 65536 % 256), .int .u8 (d.id / 256 % 256), .int .u8 (d.id % 256)] 5)
    have y1 : By (wr.heap.size + 1) (wr.alloc (.cells #[.int .u8 (d.pro), .int .u8 (0), .int .u8 (d.off / 32), .int .u8 (d.off % 32 * 8 + 1), .int .u8 (d.id / 16777216), .int .u8 (d.id / 65536 % 256), .int .u8 (d.id / 256 % 256), .int .u8 (d.id % 256)] 5)) (some ⟨wr.heap.size, 0, none⟩) 8 8 [d.pro, 0, d.off / 32, d.off % 32 * 8 + 1, d.id / 16777216, d.id / 65536 % 256, d.id / 256 % 256, d.id % 256] := By.new wr 5 [d.pro, 0, d.off / 32, d.off % 32 * 8 + 1, d.id / 16777216, d.id / 65536 % 256, d.id / 256 % 256, d.id % 256] hin (show 8 ≤ 9223372036854775807 by decide)
    have hB1 := hBr.trans (((Below.refl wr.heap.size wr).alloc (Nat.le_refl _) (.cells #[.int .u8 (d.pro), .int .u8 (0), .int .u8 (d.off / 32), .int .u8 (d.off % 32 * 8 + 1), .int .u8 (d.id / 16777216), .int .u8 (d.id / 65536 % 256), .int .u8 (d.id / 256 % 256), .int .u8 (d.id % 256)] 5)).mono hBr.size)
    clear hf hTe hm hin
    go_wp2_with (first | (at_builtin; refine wpList_appB _ rfl _ _ 25 rfl Try.underlying25 infoB W1.heap.size _ _ rfl o1 _ _ 8 8 [d.pro, 0, d.off / 32, d.off % 32 * 8 + 1, d.id / 16777216, d.id / 65536 % 256, d.id / 256 % 256, d.id % 256] rfl y1 (by rw [hTLH.out]; omega) (Below.size hB1) ?_; intro v7 w7 o7 hg7 _; have hb7 := below_own (OwnB.own o1) hg7 (Below.size hB1); have hB7 := hB1.trans hb7; have c41r := c41 _ hB7; have yB7 := (hR1.body.below hB7 (Nat.le_refl _)); dsimp only at yB7; rw [hBLH.out] at yB7) | (at_builtin; refine wpList_appB _ rfl _ _ 25 rfl Try.underlying25 infoB W1.heap.size _ _ rfl o7 _ _ BL bc d.bl rfl yB7 (by rw [List.length_append, hTLH.out]; show TL + 8 + BL ≤ _; omega) (Below.size hB7) ?_; intro v9 w9 o9 hg9 _; have hb9 := below_own (OwnB.own o7) hg9 (Below.size hB7)))
    go_ret2
    rw [hby.out] at o9
    exact ⟨_, rfl, o9.more hB.size, hB.trans ((hB7.trans hb9).mono hB.size)⟩
 case pos =>
 have hkz : (k : Int) < (M : Int) := by omega
 obtain ⟨⟨pk, pA, pc, pl⟩, hp⟩ : ∃ p', ps[k]? = some p' := ⟨ps[k]'(by rw [hMn]; exact hkM), List.getElem?_eq_getElem _⟩
 have hdk := drop_kd (hs := d.hs) hR.hl hp
 have K := hR1.hd
 dsimp only at K
 obtain ⟨b1, o1, hA1, hb1, hr1, hr2, yP, e0, e1, hld⟩ := K.loadHead hp
 subst hA1
 dsimp only at hr1 hr2 yP hdk e1
 obtain ⟨m, hm⟩ : ∃ m, pl.length = m := ⟨_, rfl⟩
 rw [hm] at e1 yP
 obtain ⟨kn, hkn⟩ : ∃ kn, nxt d.last (d.hs.drop (k + 1)) = kn := ⟨_, rfl⟩
 have hmm := okH_at r3H.out (kd_get (hs := d.hs) hR.hl hp)
 dsimp only at hmm
 rw [hm] at hmm
 have hm1 : 6 ≤ m ∧ m ≤ 2046 := by omega
 have hknr : 0 ≤ kn ∧ kn ≤ 255 := by rw [← hkn]; exact nxt_rng hlast (fun x hx => hrngH.out x (List.mem_of_mem_drop hx))
 have hTn : Hid (T ++ [kn, ((m : Int) + 2) / 8 - 1] ++ pl ++ hb d.last (d.hs.drop (k + 1)) = d.pre ++ hb d.last d.hs) := Lib.hid (by
  rw [← hT.out, hdk]
  simp only [hb, hkn, hm, List.append_assoc, List.cons_append, List.nil_append])
 have hin2 : InB [kn, ((m : Int) + 2) / 8 - 1] := by
  intro x hx
  simp only [List.mem_cons, List.not_mem_nil, or_false] at hx
  rcases hx with rfl | rfl <;> omega
 have hknH := Lib.hid hkn
 have o1w := hO.drew
 obtain ⟨TL, hTL⟩ : ∃ TL, T.length = TL := ⟨_, rfl⟩
 have hTlH := Lib.hid hTL
 rw [hTL] at hTl
 clear hp hdk hT hm K e0 hkn hmm hTL hHBl hld c41
 go_wp2
 refine wp_region_held_drew (S := fun W => Below W1.heap.size W1 W) (by kernel_rfl) (hBr.trans (below_drew _ _)) (fun hS => ?_)
 generalize World.drew _ = W5 at hS o1w ⊢
 refine te 0 (u6) hS rfl (by intro _ _; exact rfl) ?_
 simp only [lay]
 refine te 1 (.agg (d.cells ⟨some ⟨b1, o1, none⟩, hc, ps, bA, bc⟩)) hS rfl (by intro _ h; exact ex_load (by exact rfl) (by exact rfl) (((hH.below h hH.lt)).load (P := Try.prog) 36 Try.underlying36 rfl v6_info)) ?_
 simp only [lay]
 refine te 2 (.int .i64 (k : Int)) hS rfl (by intro _ _; exact rfl) ?_
 simp only [lay]
 refine te 3 (.int .i64 ((k + 1 : Nat) : Int)) hS rfl (by intro _ _; exact ex_bin (by exact rfl) (by exact rfl) (by exact rfl) (by decide) (add1_i64 _ _ (by omega) _)) ?_
 simp only [lay]
 refine te 5 (.pointer (some ⟨w.heap.size, 35, none⟩)) hS rfl (by intro _ _; exact ex_field 35 0 (by exact rfl) Try.underlying36 (by exact rfl) rfl (by kernel_rfl) (by exact rfl)) ?_
 simp only [lay]
 refine te 6 (.slice (some ⟨b1, o1, none⟩) M hc) hS rfl (by intro _ h; exact ex_cell (by exact rfl) Try.underlying34 rfl (by exact rfl) (c35 _ h)) ?_
 simp only [lay]
 refine te 7 (.int .i64 (k : Int)) hS rfl (by intro _ _; exact rfl) ?_
 simp only [lay]
 refine te 8 (.pointer (some ⟨b1, o1 + k * 2, none⟩)) hS rfl (by intro _ _; exact ex_index2 (by exact rfl) Try.underlying34 (by kernel_rfl) (by exact rfl) (by exact rfl) hkM) ?_
 simp only [lay]
 refine te 9 (.pointer (some ⟨b1, o1 + k * 2 + 1, none⟩)) hS rfl (by intro _ _; exact ex_field1 (by exact rfl) Try.underlying93 (by exact rfl) rfl (by kernel_rfl) (by exact rfl)) ?_
 simp only [lay]
 refine te 10 (.slice pA m pc) hS rfl (by intro _ h; exact ex_cell (by exact rfl) Try.underlying25 rfl (by exact rfl) ((h.cell (p := ⟨b1, o1 + k * 2 + 1, none⟩) hb1).trans e1)) ?_
 simp only [lay]
 refine te 11 (.int .i64 (m : Int)) hS rfl (by intro _ _; exact ex_len (by exact rfl) Try.underlying25 (by exact rfl)) ?_
 simp only [lay]
 refine te 12 (.int .i64 ((m : Int) + 2)) hS rfl (by intro _ _; exact ex_bin (by exact rfl) (by exact rfl) (by exact rfl) (by decide) (b_add _ _ rfl (by omega) _)) ?_
 simp only [lay]
 refine te 13 (.int .i64 (((m : Int) + 2) / 8)) hS rfl (by intro _ _; exact ex_bin (by exact rfl) (by exact rfl) (by exact rfl) (by decide) (b_quo _ _ rfl (by omega) (by decide) _)) ?_
 simp only [lay]
 refine te 14 (.int .i64 (((m : Int) + 2) / 8 - 1)) hS rfl (by intro _ _; exact ex_bin (by exact rfl) (by exact rfl) (by exact rfl) (by decide) (b_sub _ _ rfl (by omega) _)) ?_
 simp only [lay]
 refine te 15 (.int .u8 (((m : Int) + 2) / 8 - 1)) hS rfl (by intro _ h; exact ex_conv (by exact rfl) (by exact rfl) (conv_u8' _ _ _ _ rfl rfl (by omega) _)) ?_
 simp only [lay]
 refine tk_one (by kernel_rfl) (op_callx (i := 4) (fun v W => (∃ q : Int, v = .int .u8 q ∧ Hid (q = nxt d.last (d.hs.drop (k + 1)))) ∧ Below (World.heap W5).size W5 W) rfl (by kernel_rfl) (by exact ex_call (by exact rfl) Try.func90 (by kernel_rfl) (by kernel_rfl) (by simp only [List.map_toArray, List.map_cons, List.map_nil] <;> rfl)) ((next_any d ⟨some ⟨b1, o1, none⟩, hc, ps, bA, bc⟩ _ ((hR1.below hS (Nat.le_refl _)).more (Below.size hS)) (k + 1) (by rw [hMH.out]; omega)).mono (fun e w' ⟨⟨q, he, hq⟩, hb⟩ => ⟨_, he, ⟨⟨q, rfl, hq⟩, hb⟩, hS.trans (hb.mono (Below.size hS))⟩)) ?_)
 rintro v W6 ⟨⟨q, rfl, hq⟩, hb6⟩ hS6
 obtain rfl : kn = q := (hq.out.trans (by rw [hknH.out])).symm
 have o2 := o1w.below hb6
 clear hq
 simp only [lay]
 refine tk_one (by kernel_rfl) (op_build (i := 16) (u8s [kn, ((m : Int) + 2) / 8 - 1]) rfl (by kernel_rfl) rfl Try.underlying25 (by kernel_rfl) (by kernel_rfl) rfl (by decide) (by decide) (by first | rfl | (simp only [List.map_toArray, List.map_cons, List.map_nil] <;> rfl)) (u8s_cells _) (fun _ hb => hS6.trans (hb.mono (Below.size hS6))) ?_)
 intro g5 W7 hQ5 hge5 _ hb7 hS7
 have o3 := o2.below hb7
 have yq : By (g5 + 1) W7 (some ⟨g5, 0, none⟩) 2 2 [kn, ((m : Int) + 2) / 8 - 1] := By.blk' (t := 5) (fz := (0, 0)) hQ5 (Nat.lt_succ_self _) hin2 (show 2 ≤ 9223372036854775807 by decide) rfl rfl
 simp only [lay]
 refine tk_one (by kernel_rfl) (op_app (i := 17) (.tmp 65) (.tmp 81) _ rfl (by kernel_rfl) rfl Try.underlying25 infoB W1.heap.size _ _ rfl o3 _ _ _ _ _ rfl (yq) (by rw [hTlH.out]; omega) (Below.size hS7) (fun _ hb => hS7.trans hb) ?_)
 intro v8 W8 o4 _ hS8
 simp only [lay]
 refine te 18 (v8) hS8 rfl (by intro _ _; exact rfl) ?_
 simp only [lay]
 refine wpAnyH_done (by kernel_rfl) ?_ _
 have c35 := c35 _ hS8
 have e1 := (hS8.cell (p := ⟨b1, o1 + k * 2 + 1, none⟩) hb1).trans e1
 have yP7 := yP.below hS8 (Nat.le_refl _)
 have hl3 : (T ++ [kn, ((m : Int) + 2) / 8 - 1]).length = TL + 2 := by rw [List.length_append, hTlH.out]; rfl
 have hl3H := Lib.hid hl3
 clear hl3
 go_wp2_with (first | (refine wl (.pointer (some ⟨b1, o1 + k * 2, none⟩)) (by kernel_rfl) (by exact ex_index2 (by exact rfl) Try.underlying34 (by kernel_rfl) (by exact rfl) (by exact rfl) hkM) ?_) | (refine wl (.pointer (some ⟨b1, o1 + k * 2 + 1, none⟩)) (by kernel_rfl) (by exact ex_field1 (by exact rfl) Try.underlying93 (by exact rfl) rfl (by kernel_rfl) (by exact rfl)) ?_) | (at_builtin; refine wpList_appB _ rfl _ _ 25 rfl Try.underlying25 infoB W1.heap.size _ _ rfl o4 _ _ m pc pl rfl yP7 (by rw [hl3H.out]; omega) (Below.size hS8) ?_; intro v9 w9 o9 hg9 _; have hb9 := below_own (OwnB.own o4) hg9 (Below.size hS8)))
 go_roundw
 case rel => exact ⟨k + 1, T ++ [kn, ((m : Int) + 2) / 8 - 1] ++ pl, by omega, by go_num, o9, hTn, hS8.trans hb9⟩
 case measure => simp [intOf]; omega
end Go.Proofs.Ytijnifbpbgckgaa
namespace Go.Proofs.Ytijnifbpbgckgaa
open Go.RowKit Go.Shelf

set_option maxRecDepth 100000 in
theorem write6_err (d : D6) (p : W6) (w : World) (hR : Rd6 w.heap.size w d p) (h0 : d.check ≠ 0) :
  Calls Try.prog 54 #[.agg (d.cells p)] w fun e w' => e = .returned (.tuple #[.slice none 0 0, .int .i64 d.check]) ∧ Below w.heap.size w w' := by
 have hB : Below w.heap.size w (w.alloc (.cells (d.cells p) 36)) := (Below.refl _ _).alloc (Nat.le_refl _) _
 have hH : Has (w.alloc (.cells (d.cells p) 36)) w.heap.size (.cells (d.cells p) 36 (0, 0)) := Has.newAt rfl
 have hcH := Lib.hid (size6_any d p (w.alloc (.cells (d.cells p) 36)) ((hR.below hB (Nat.le_refl _)).more hB.size))
 have hz : (d.cells p).size = 42 := rfl
 have hcsH := Lib.hid (d.check_cases.resolve_left h0)
 clear h0
 go_enter Try.func54, Try.ntmps54
 go_wp2_with (refine wpList_load_row rfl 36 (.tmp 1) rfl w.heap.size rfl 36 (d.cells p) (0, 0) _ hH Try.underlying36 rfl v6_info ?_)
 refine hcH.out.mono ?_
 rintro e w1 ⟨⟨q, r, s, rfl, hq⟩, hb1⟩
 clear hcH
 have hq2 : s = 54 ∨ s = 2 := by rw [hq.out.2.2]; exact hcsH.out
 rcases hq2 with rfl | rfl
 ·go_wp2
  go_ret2
  exact ⟨by rw [← hq.out.2.2]; rfl, hB.trans (hb1.mono hB.size)⟩
 ·go_wp2
  go_ret2
  exact ⟨by rw [← hq.out.2.2]; rfl, hB.trans (hb1.mono hB.size)⟩
set_option maxRecDepth 100000 in
theorem rwrite6_err (d : D6) (p : W6) (w : World) (hR : Rd6 w.heap.size w d p) (h0 : d.check ≠ 0) :
  Calls Try.prog 57 #[.agg (d.cells p)] w fun e w' => e = .returned (.tuple #[.slice none 0 0, .int .i64 d.check]) ∧ Below w.heap.size w w' := by
 have hB : Below w.heap.size w (w.alloc (.cells (d.cells p) 36)) := (Below.refl _ _).alloc (Nat.le_refl _) _
 have hH : Has (w.alloc (.cells (d.cells p) 36)) w.heap.size (.cells (d.cells p) 36 (0, 0)) := Has.newAt rfl
 have hcH := Lib.hid (rcheck6_any d p (w.alloc (.cells (d.cells p) 36)) ((hR.below hB (Nat.le_refl _)).more hB.size))
 have hz : (d.cells p).size = 42 := rfl
 have hcsH := Lib.hid (d.check_cases.resolve_left h0)
 clear h0
 go_enter Try.func57, Try.ntmps57
 go_wp2_with (refine wpList_load_row rfl 36 (.tmp 1) rfl w.heap.size rfl 36 (d.cells p) (0, 0) _ hH Try.underlying36 rfl v6_info ?_)
 refine hcH.out.mono ?_
 rintro e w1 ⟨⟨q, rfl, hq⟩, hb1⟩
 clear hcH
 have hq2 : q = 54 ∨ q = 2 := by rw [hq.out]; exact hcsH.out
 rcases hq2 with rfl | rfl
 ·go_wp2
  go_ret2
  exact ⟨by rw [← hq.out]; rfl, hB.trans (hb1.mono hB.size)⟩
 ·go_wp2
  go_ret2
  exact ⟨by rw [← hq.out]; rfl, hB.trans (hb1.mono hB.size)⟩
/-- bytes of the call's own, and an error's number -/
def Wrote (w w' : World) (l : List Int) (c : Int) (e : Ending) : Prop := ∃ v s, e = .returned (.tuple #[v, .int .i64 s]) ∧ Hid (s = c) ∧ OwnB w' w.heap.size v l ∧ Below w.heap.size w w'
theorem write6_any (d : D6) (p : W6) (w : World) (hR : Rd6 w.heap.size w d p) :
  Calls Try.prog 54 #[.agg (d.cells p)] w fun e w' => Wrote w w' d.write d.check e := by
 by_cases h0 : d.check = 0
 ·refine (write6_ok d p w hR h0).mono ?_
  rintro e w' ⟨v, rfl, ho, hb⟩
  refine ⟨v, 0, rfl, Lib.hid h0.symm, ?_, hb⟩
  unfold D6.write
  rw [if_pos h0]
  exact ho
 ·refine (write6_err d p w hR h0).mono ?_
  rintro e w' ⟨rfl, hb⟩
  refine ⟨_, _, rfl, Lib.hid rfl, ?_, hb⟩
  unfold D6.write
  rw [if_neg h0]
  exact OwnB.nil _ _
theorem rwrite6_any (d : D6) (p : W6) (w : World) (hR : Rd6 w.heap.size w d p) :
  Calls Try.prog 57 #[.agg (d.cells p)] w fun e w' => Wrote w w' d.write d.check e := by
 by_cases h0 : d.check = 0
 ·refine (rwrite6_ok d p w hR h0).mono ?_
  rintro e w' ⟨v, rfl, ho, hb⟩
  refine ⟨v, 0, rfl, Lib.hid h0.symm, ?_, hb⟩
  unfold D6.write
  rw [if_pos h0]
  exact ho
 ·refine (rwrite6_err d p w hR h0).mono ?_
  rintro e w' ⟨rfl, hb⟩
  refine ⟨_, _, rfl, Lib.hid rfl, ?_, hb⟩
  unfold D6.write
  rw [if_neg h0]
  exact OwnB.nil _ _
end Go.Proofs.Ytijnifbpbgckgaa
