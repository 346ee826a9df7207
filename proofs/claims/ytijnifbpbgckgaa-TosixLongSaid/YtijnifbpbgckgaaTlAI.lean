/-
  Lemmas and walks for the row of TosixLong (part 9 of 37).
-/
import Derived.Test.YtijnifbpbgckgaaTlAG
import Derived.Test.YtijnifbpbgckgaaTlAH
set_option linter.unusedVariables false
set_option linter.unusedSimpArgs false
namespace Go.Proofs.Ytijnifbpbgckgaa
open Go.RowKit Go.Shelf

set_option maxRecDepth 100000 in
set_option maxHeartbeats 8000000 in
theorem write6_ok (d : D6) (p : W6) (w : World) (hR : Rd6 w.heap.size w d p) (h0 : d.check = 0) :
    Calls Try.prog 54 #[.agg (d.cells p)] w fun e w' => ∃ v, e = .returned (.tuple #[v, .int .i64 0]) ∧ OwnB w' w.heap.size v d.bytes ∧ Below w.heap.size w w' := by
  obtain ⟨hA, hc, ps, bA, bc⟩ := p
  have hB : Below w.heap.size w (w.alloc (.cells (d.cells ⟨hA, hc, ps, bA, bc⟩) 36)) := (Below.refl _ _).alloc (Nat.le_refl _) _
  have hH : Has (w.alloc (.cells (d.cells ⟨hA, hc, ps, bA, bc⟩) 36)) w.heap.size (.cells (d.cells ⟨hA, hc, ps, bA, bc⟩) 36 (0, 0)) := Has.newAt rfl
  obtain ⟨W1, hW1⟩ : ∃ W, w.alloc (.cells (d.cells ⟨hA, hc, ps, bA, bc⟩) 36) = W := ⟨_, rfl⟩
  rw [hW1] at hB hH
  have hR1 := (hR.below hB (Nat.le_refl _)).more hB.size
  obtain ⟨hr, hle⟩ := D6.ok_of_check h0
  obtain ⟨r1, r2, r3, r4⟩ := D6.right_true hr
  obtain ⟨hsm, ha2, ha3⟩ := D6.ahead_le hr
  have hz : (d.cells ⟨hA, hc, ps, bA, bc⟩).size = 42 := rfl
  have hc1 := Lib.hid (size6_any d ⟨hA, hc, ps, bA, bc⟩ W1 hR1)
  have e1 : d.all = 40 + (d.plen : Int) := by rw [D6.all, if_pos h0, D6.plen]; omega
  have e1H := Lib.hid e1
  have h0H := Lib.hid h0
  have r3H := Lib.hid r3
  have r4H := Lib.hid r4
  have hpl : d.plen ≤ 65535 := hle
  have hplH := Lib.hid hpl
  have hsmH := Lib.hid hsm
  clear e1 h0 hr hle r3 r4 ha2 ha3 hpl hsm
  go_enter Try.func54, Try.ntmps54
  go_wp2_with (refine wpList_load_row rfl 36 (.tmp 1) rfl w.heap.size rfl 36 (d.cells ⟨hA, hc, ps, bA, bc⟩) (0, 0) _ hH Try.underlying36 rfl v6_info ?_)
  refine hc1.out.mono ?_
  rintro e w1 ⟨⟨Q, r, s, rfl, hq⟩, hb1⟩
  obtain rfl : s = 0 := hq.out.2.2.trans h0H.out
  have hQ : Hid (Q = 40 + (d.plen : Int)) := Lib.hid (hq.out.1.trans e1H.out)
  have hQ2 : 40 ≤ Q ∧ Q ≤ 65575 := by have := hQ.out; have := hplH.out; omega
  have hH1 := hH.below hb1 hH.lt
  have hc2 := Lib.hid (kinds_any d ⟨hA, hc, ps, bA, bc⟩ w1 ((hR1.below hb1 (Nat.le_refl _)).more hb1.size) r2)
  clear hq hc1
  go_wp2_with (refine wpList_load_row rfl 36 (.tmp 1) rfl w.heap.size rfl 36 (d.cells ⟨hA, hc, ps, bA, bc⟩) (0, 0) _ hH1 Try.underlying36 rfl v6_info ?_)
  refine hc2.out.mono ?_
  rintro e W2 ⟨v7, rfl, hk7, hb2⟩
  have hBW := hb1.trans (hb2.mono hb1.size)
  have hH2 := hH.below hBW hH.lt
  have hR2 := (hR1.below hBW (Nat.le_refl _)).more hBW.size
  have hBw2 := hB.trans (hBW.mono hB.size)
  have hkl := d.ks_len
  have hkg : ∀ j, j ≤ d.hs.length → d.ks.getD j 0 = nxt d.last (d.hs.drop j) := fun j hj => d.ks_get hj
  obtain ⟨KS, hKS⟩ : ∃ KS, d.ks = KS := ⟨_, rfl⟩
  obtain ⟨M, hM⟩ : ∃ M, d.hs.length = M := ⟨_, rfl⟩
  rw [hKS] at hk7 hkl hkg
  rw [hM] at hkg hkl r2
  obtain ⟨A5, c5, rfl, y5⟩ := hk7.by_
  obtain ⟨KL, hKL⟩ : ∃ KL, KS.length = KL := ⟨_, rfl⟩
  rw [hKL] at y5 hkl ⊢
  have hKM : M < KL := by rw [hkl]; split <;> omega
  have hKL0 : 0 < KL := by omega
  have hKL9 : KL ≤ 10 := by rw [hkl]; split <;> omega
  obtain ⟨b5, o5, rfl, hb5, -⟩ := y5.row.at_ (by omega)
  have k0c : W2.cell? ⟨b5, o5, none⟩ = _ := y5.atO (k := 0) hKL0
  rw [hkg 0 (Nat.zero_le _), List.drop_zero] at k0c
  obtain ⟨n0, hn0⟩ : ∃ n0, nxt d.last d.hs = n0 := ⟨_, rfl⟩
  rw [hn0] at k0c
  have hcls := hR.ok.cls
  have hlab := hR.ok.lab
  have hop := hR.ok.hop
  have hsL := hR.ok.srcL
  have hdL := hR.ok.dstL
  have hn0r : 0 ≤ n0 ∧ n0 ≤ 255 := by rw [← hn0]; exact nxt_rng (D6.last_rng hR.ok) (hR.hl ▸ hR.hd.rng)
  have hrng : ∀ x ∈ d.hs, 0 ≤ x.1 ∧ x.1 ≤ 255 ∧ InB x.2 := by
    have h := hR.hd.rng
    rw [show kdL _ = d.hs from hR.hl] at h
    exact h
  have hrngH := Lib.hid hrng
  clear hrng
  have or1 : bits .or .u8 96 (d.cls / 16) = 96 + d.cls / 16 := or_u8 4 (by omega) (by omega) (by omega) (by omega) (by omega) (by omega)
  have or2 : bits .or .u8 (d.cls * 16 % 256) (d.lab / 65536) = d.cls % 16 * 16 + d.lab / 65536 := (or_u8 4 (by omega) (by omega) (by omega) (by omega) (by omega) (by omega)).trans (by omega)
  have hMH := Lib.hid hM
  have hn0H := Lib.hid hn0
  have hkgH := Lib.hid hkg
  have c41 := hH2.cell 41 (v := .slice bA d.bl.length bc) rfl
  clear hc2 hkl hM hn0 hkg hk7 hKS hb1 hb2 hW1
  go_wp2
  refine wp_region_held_drew (S := fun W => Below W2.heap.size W2 W) (by kernel_rfl) (below_drew _ _) (fun hS => ?_)
  refine te 0 (.pointer (some ⟨w.heap.size, 0, none⟩)) hS rfl (by intro _ _; exact ex_field 0 0 (by exact rfl) Try.underlying36 (by exact rfl) rfl (by kernel_rfl) (by exact rfl)) ?_
  simp only [lay]
  refine te 1 (.int .u8 d.cls) hS rfl (by intro _ h; exact ex_cell (by exact rfl) Try.underlying5 rfl (by exact rfl) ((hH2.below h hH2.lt).cell 0 rfl)) ?_
  simp only [lay]
  refine te 2 (.int .u8 (d.cls / 16)) hS rfl (by intro _ _; exact ex_bin (by exact rfl) (by exact rfl) (by exact rfl) (by decide) (b_shr .u8 _ 4 _ rfl (by decide) _)) ?_
  simp only [lay]
  refine te 3 (.int .u8 (96 + d.cls / 16)) hS rfl (by intro _ _; exact ex_bin (by exact rfl) (by exact rfl) (by exact rfl) (by decide) (b_or8 _ _ or1 _)) ?_
  simp only [lay]
  refine te 4 (.pointer (some ⟨w.heap.size, 0, none⟩)) hS rfl (by intro _ _; exact ex_field 0 0 (by exact rfl) Try.underlying36 (by exact rfl) rfl (by kernel_rfl) (by exact rfl)) ?_
  simp only [lay]
  refine te 5 (.int .u8 d.cls) hS rfl (by intro _ h; exact ex_cell (by exact rfl) Try.underlying5 rfl (by exact rfl) ((hH2.below h hH2.lt).cell 0 rfl)) ?_
  simp only [lay]
  refine te 6 (.int .u8 (d.cls * 16 % 256)) hS rfl (by intro _ _; exact ex_bin (by exact rfl) (by exact rfl) (by exact rfl) (by decide) (b_shl4 _ _ rfl _)) ?_
  simp only [lay]
  refine te 7 (.pointer (some ⟨w.heap.size, 1, none⟩)) hS rfl (by intro _ _; exact ex_field 1 0 (by exact rfl) Try.underlying36 (by exact rfl) rfl (by kernel_rfl) (by exact rfl)) ?_
  simp only [lay]
  refine te 8 (.int .u32 d.lab) hS rfl (by intro _ h; exact ex_cell (by exact rfl) Try.underlying33 rfl (by exact rfl) ((hH2.below h hH2.lt).cell 1 rfl)) ?_
  simp only [lay]
  refine te 9 (.int .u32 (d.lab / 65536)) hS rfl (by intro _ _; exact ex_bin (by exact rfl) (by exact rfl) (by exact rfl) (by decide) (b_shr .u32 _ 16 _ rfl (by decide) _)) ?_
  simp only [lay]
  refine te 10 (.int .u8 (d.lab / 65536)) hS rfl (by intro _ h; exact ex_conv (by exact rfl) (by exact rfl) (conv_u8' _ _ _ _ rfl rfl (by omega) _)) ?_
  simp only [lay]
  refine te 11 (.int .u8 (d.cls % 16 * 16 + d.lab / 65536)) hS rfl (by intro _ _; exact ex_bin (by exact rfl) (by exact rfl) (by exact rfl) (by decide) (b_or8 _ _ or2 _)) ?_
  simp only [lay]
  refine te 12 (.pointer (some ⟨w.heap.size, 1, none⟩)) hS rfl (by intro _ _; exact ex_field 1 0 (by exact rfl) Try.underlying36 (by exact rfl) rfl (by kernel_rfl) (by exact rfl)) ?_
  simp only [lay]
  refine te 13 (.int .u32 d.lab) hS rfl (by intro _ h; exact ex_cell (by exact rfl) Try.underlying33 rfl (by exact rfl) ((hH2.below h hH2.lt).cell 1 rfl)) ?_
  simp only [lay]
  refine te 14 (.int .u32 (d.lab / 256)) hS rfl (by intro _ _; exact ex_bin (by exact rfl) (by exact rfl) (by exact rfl) (by decide) (b_shr .u32 _ 8 _ rfl (by decide) _)) ?_
  simp only [lay]
  refine te 15 (.int .u8 (d.lab / 256 % 256)) hS rfl (by intro _ h; exact ex_conv (by exact rfl) (by exact rfl) (conv_u8 _ _ _ _ rfl rfl _)) ?_
  simp only [lay]
  refine te 16 (.pointer (some ⟨w.heap.size, 1, none⟩)) hS rfl (by intro _ _; exact ex_field 1 0 (by exact rfl) Try.underlying36 (by exact rfl) rfl (by kernel_rfl) (by exact rfl)) ?_
  simp only [lay]
  refine te 17 (.int .u32 d.lab) hS rfl (by intro _ h; exact ex_cell (by exact rfl) Try.underlying33 rfl (by exact rfl) ((hH2.below h hH2.lt).cell 1 rfl)) ?_
  simp only [lay]
  refine te 18 (.int .u8 (d.lab % 256)) hS rfl (by intro _ h; exact ex_conv (by exact rfl) (by exact rfl) (conv_u8 _ _ _ _ rfl rfl _)) ?_
  simp only [lay]
  refine te 19 (.int .i64 (Q - 40)) hS rfl (by intro _ _; exact rfl) ?_
  simp only [lay]
  refine te 20 (.int .i64 ((Q - 40) / 256)) hS rfl (by intro _ _; exact ex_bin (by exact rfl) (by exact rfl) (by exact rfl) (by decide) (b_shr .i64 _ 8 _ rfl (by decide) _)) ?_
  simp only [lay]
  refine te 21 (.int .u8 ((Q - 40) / 256)) hS rfl (by intro _ h; exact ex_conv (by exact rfl) (by exact rfl) (conv_u8' _ _ _ _ rfl rfl (by omega) _)) ?_
  simp only [lay]
  refine te 22 (.int .i64 (Q - 40)) hS rfl (by intro _ _; exact rfl) ?_
  simp only [lay]
  refine te 23 (.int .u8 ((Q - 40) % 256)) hS rfl (by intro _ h; exact ex_conv (by exact rfl) (by exact rfl) (conv_u8 _ _ _ _ rfl rfl _)) ?_
  simp only [lay]
  refine te 24 (.slice (some ⟨b5, o5, none⟩) KL c5) hS rfl (by intro _ _; exact rfl) ?_
  simp only [lay]
  refine te 25 (.pointer (some ⟨b5, o5, none⟩)) hS rfl (by intro _ _; exact ex_index (k := 0) (by exact rfl) Try.underlying25 (by kernel_rfl) (by exact rfl) (by exact rfl) hKL0) ?_
  simp only [lay]
  refine te 26 (.int .u8 n0) hS rfl (by intro _ h; exact ex_cell (by exact rfl) Try.underlying5 rfl (by exact rfl) ((h.cell (p := ⟨b5, o5, none⟩) hb5).trans k0c)) ?_
  simp only [lay]
  refine te 27 (.pointer (some ⟨w.heap.size, 2, none⟩)) hS rfl (by intro _ _; exact ex_field 2 0 (by exact rfl) Try.underlying36 (by exact rfl) rfl (by kernel_rfl) (by exact rfl)) ?_
  simp only [lay]
  refine te 28 (.int .u8 d.hop) hS rfl (by intro _ h; exact ex_cell (by exact rfl) Try.underlying5 rfl (by exact rfl) ((hH2.below h hH2.lt).cell 2 rfl)) ?_
  simp only [lay]
  refine tk_one (by kernel_rfl) (op_build (i := 29) (u8s [96 + d.cls / 16, d.cls % 16 * 16 + d.lab / 65536, d.lab / 256 % 256, d.lab % 256, (Q - 40) / 256, (Q - 40) % 256, n0, d.hop]) rfl (by kernel_rfl) rfl Try.underlying25 (by kernel_rfl) (by kernel_rfl) rfl (by decide) (by decide) (by first | rfl | (simp only [List.map_toArray, List.map_cons, List.map_nil] <;> rfl)) (u8s_cells _) (fun _ hb => hS.trans (hb.mono (Below.size hS))) ?_)
  intro g6 W6 hQ6 hge6 hsz6 hb6 hS6
  simp only [lay]
  refine te 30 (.slice (some ⟨g6, 0, none⟩) 8 8) hS6 rfl (by intro _ _; exact rfl) ?_
  simp only [lay]
  refine wpAnyH_done (by kernel_rfl) ?_ _
  go_wp2
  have hFrng : InB [96 + d.cls / 16, d.cls % 16 * 16 + d.lab / 65536, d.lab / 256 % 256, d.lab % 256, (Q - 40) / 256, (Q - 40) % 256, n0, d.hop] := by
    intro x hx
    simp only [List.mem_cons, List.not_mem_nil, or_false] at hx
    rcases hx with rfl | rfl | rfl | rfl | rfl | rfl | rfl | rfl <;> omega
  obtain ⟨F, hF⟩ : ∃ F, [96 + d.cls / 16, d.cls % 16 * 16 + d.lab / 65536, d.lab / 256 % 256, d.lab % 256, (Q - 40) / 256, (Q - 40) % 256, n0, d.hop] = F := ⟨_, rfl⟩
  have hF8 : F.length = 8 := by rw [← hF]; rfl
  rw [hF] at hQ6 hFrng
  have hFd : Hid (F = d.first) := Lib.hid (by rw [← hF, D6.first, hn0H.out, hQ.out, show (40 + (d.plen : Int) - 40) = d.plen from by omega])
  have yF : By W6.heap.size W6 (some ⟨g6, 0, none⟩) 8 8 F := By.blk' hQ6 hQ6.lt hFrng (by omega) hF8.symm hF8.symm
  have yS := d.srcBy (hH2.below hS6 hH2.lt) hR.ok
  have yD := d.dstBy (hH2.below hS6 hH2.lt) hR.ok
  have flat3 : flat [(some ⟨g6, 0, none⟩, 8, F), (some ⟨w.heap.size, 3, none⟩, 16, d.src), (some ⟨w.heap.size, 19, none⟩, 16, d.dst)] = F ++ d.src ++ d.dst := by simp [flat]
  clear hF or1 or2 hFrng
  refine wp_region_held_drew (S := fun W => Below W6.heap.size W6 W) (by kernel_rfl) (below_drew _ _) (fun hS => ?_)
  refine te 0 (.slice (some ⟨g6, 0, none⟩) 8 8) hS rfl (by intro _ _; exact rfl) ?_
  simp only [lay]
  refine te 1 (.pointer (some ⟨w.heap.size, 3, none⟩)) hS rfl (by intro _ _; exact ex_field 3 15 (by exact rfl) Try.underlying36 (by exact rfl) rfl (by kernel_rfl) (by exact rfl)) ?_
  simp only [lay]
  refine te 2 (.slice (some ⟨w.heap.size, 3, none⟩) 16 16) hS rfl (by intro _ _; exact ex_arr (by exact rfl) Try.underlying29 (by kernel_rfl) (by exact rfl)) ?_
  simp only [lay]
  refine te 3 (.pointer (some ⟨w.heap.size, 19, none⟩)) hS rfl (by intro _ _; exact ex_field 19 15 (by exact rfl) Try.underlying36 (by exact rfl) rfl (by kernel_rfl) (by exact rfl)) ?_
  simp only [lay]
  refine te 4 (.slice (some ⟨w.heap.size, 19, none⟩) 16 16) hS rfl (by intro _ _; exact ex_arr (by exact rfl) Try.underlying29 (by kernel_rfl) (by exact rfl)) ?_
  simp only [lay]
  refine tk_one (by kernel_rfl) (op_build (i := 5) [.slice (some ⟨g6, 0, none⟩) 8 8, .slice (some ⟨w.heap.size, 3, none⟩) 16 16, .slice (some ⟨w.heap.size, 19, none⟩) 16 16] rfl (by kernel_rfl) rfl Try.underlying106 (by kernel_rfl) (by kernel_rfl) rfl (by decide) (by decide) (by first | rfl | (simp only [List.map_toArray, List.map_cons, List.map_nil] <;> rfl)) (all3 rfl rfl rfl) (fun _ hb => hS.trans (hb.mono (Below.size hS))) ?_)
  intro g7 W7 hQ7 hge7 hsz7 hb7 hS7
  simp only [lay]
  refine tk_one (by kernel_rfl) (op_callx (i := 6) (fun v W => OwnB W W2.heap.size v (F ++ d.src ++ d.dst)) rfl (by kernel_rfl) (by exact ex_call (by exact rfl) Try.func87 (by kernel_rfl) (by kernel_rfl) (by simp only [List.map_toArray, List.map_cons, List.map_nil] <;> rfl)) ((concat_any _ _ [(some ⟨g6, 0, none⟩, 8, F), (some ⟨w.heap.size, 3, none⟩, 16, d.src), (some ⟨w.heap.size, 19, none⟩, 16, d.dst)] _ (parts3 hQ7 (Nat.le_refl _) ((yF.below hS7 (Nat.le_refl _)).more (Below.size hS7)) ((yS.below hS7 (Nat.le_refl _)).more (Below.size hS7)) ((yD.below hS7 (Nat.le_refl _)).more (Below.size hS7))) (by simp [flat, hF8, hsL, hdL])).mono (fun e w' ⟨v, he, ho, hb⟩ => ⟨v, he, by rw [flat3] at ho; exact ho.more (Nat.le_trans hS6.size (Below.size hS7)), hS7.trans (hb.mono (Below.size hS7))⟩)) ?_)
  intro v8 W8 o8 hS8
  simp only [lay]
  refine te 7 (v8) hS8 rfl (by intro _ _; exact rfl) ?_
  simp only [lay]
  refine wpAnyH_done (by kernel_rfl) ?_ _
  have hB8 := hS6.trans (hS8.mono hS6.size)
  have hpre : F ++ d.src ++ d.dst = d.pre := by rw [hFd.out]; rfl
  rw [hpre] at o8
  have c35 := (hH2.below hB8 hH2.lt).cell 35 (v := .slice hA d.hs.length hc) rfl
  rw [hMH.out] at c35
  have hHBl : Hid ((d.pre ++ hb d.last d.hs).length ≤ 16424) := Lib.hid (by rw [List.length_append, d.pre_len hR.ok, hb_len]; have := hsmH.out; omega)
  have hlast := (D6.last_rng hR.ok)
  have hMn := hR.hd.len
  dsimp only at hMn
  rw [hMH.out] at hMn
  clear hS8 hS7 hb7 hQ7 yF yS yD flat3 hS6 hQ6 hb6 hsz6 hge6 hge7 hsz7 hpre k0c hF8 hFd hn0r
  go_wp2
  go_loopw [9, 66] (fun bv i wr => ∃ (k : Nat) (T : List Int), k ≤ M ∧ i = .int .i64 k ∧ OwnB wr W2.heap.size bv T ∧ Hid (T ++ hb d.last (d.hs.drop k) = d.pre ++ hb d.last d.hs) ∧ Below W2.heap.size W2 wr) (fun _ i _ => M - (intOf i).toNat)
  case atStart => exact ⟨0, d.pre, Nat.zero_le _, rfl, o8, Lib.hid (by rw [List.drop_zero]), hB8⟩
  case round =>
  obtain ⟨k, T, hk, rfl, hO, hT, hBr⟩ := hrel
  rename_i wr _
  have hTl : T.length ≤ 16424 := by
    have h1 := congrArg List.length hT.out
    rw [List.length_append] at h1
    have := hHBl.out
    omega
  by_cases hkM : k < M
  case neg =>
    have hge : ¬ ((k : Int) < (M : Int)) := by omega
    have hTe : Hid (T = d.pre ++ hb d.last d.hs) := Lib.hid (by rw [← hT.out, List.drop_of_length_le (by rw [hMH.out]; omega)]; simp [hb])
    have hH3 := hH2.below hBr hH2.lt
    have c36 := hH3.cell 36 (v := .bool d.frag) rfl
    have c41 := hH3.cell 41 (v := .slice bA d.bl.length bc) rfl
    have yB := hR2.body.below hBr (Nat.le_refl _)
    dsimp only at yB
    obtain ⟨BL, hBL⟩ : ∃ BL, d.bl.length = BL := ⟨_, rfl⟩
    rw [hBL] at yB c41
    have hBLH := Lib.hid hBL
    have hBL2 : BL ≤ 65535 := by have := hplH.out; unfold D6.plen at this; omega
    obtain ⟨TL, hTL⟩ : ∃ TL, T.length = TL := ⟨_, rfl⟩
    rw [hTL] at hTl
    have hTLH := Lib.hid hTL
    clear hT hBL hTL o8 hHBl c35 hkM
    cases hf : d.frag with
    | false =>
      rw [hf] at c36
      have hby : Hid (T ++ d.bl = d.bytes) := Lib.hid (by rw [hTe.out, D6.bytes, D6.fb, hf]; simp)
      clear hf hTe
      go_wp2_with (at_builtin; refine wpList_appB _ rfl _ _ 25 rfl Try.underlying25 infoB W2.heap.size _ _ rfl hO _ _ BL bc d.bl rfl yB (by rw [hTLH.out]; omega) (Below.size hBr) ?_; intro v9 w9 o9 hg9 _; have hb9 := below_own hO.own hg9 (Below.size hBr))
      go_ret2
      rw [hby.out] at o9
      exact ⟨_, rfl, o9.more hBw2.size, hBw2.trans ((hBr.trans hb9).mono hBw2.size)⟩
    | true =>
      rw [hf] at c36
      have c37 := hH3.cell 37 (v := .int .u32 d.id) rfl
      have c38 := hH3.cell 38 (v := .int .i64 d.off) rfl
      have c39 := hH3.cell 39 (v := .bool d.more) rfl
      have c40 := hH3.cell 40 (v := .int .u8 d.pro) rfl
      have hoff : 0 ≤ d.off ∧ d.off ≤ 8191 := by have h := r4H.out; unfold D6.tail at h; rw [if_pos hf] at h; exact of_decide_eq_true h
      have hid := hR.ok.id
      have hpro := hR.ok.pro
      cases hm : d.more with
      | false =>
        rw [hm] at c39
        have hby : Hid (T ++ [d.pro, 0, d.off * 8 / 256, d.off * 8 % 256, d.id / 16777216, d.id / 65536 % 256, d.id / 256 % 256, d.id % 256] ++ d.bl = d.bytes) := Lib.hid (by
          have e : [d.pro, 0, d.off * 8 / 256, d.off * 8 % 256, d.id / 16777216, d.id / 65536 % 256, d.id / 256 % 256, d.id % 256] = d.fb := by
            rw [D6.fb, if_pos hf, hm, show d.off * 8 / 256 = d.off / 32 from by omega, show d.off * 8 % 256 = d.off % 32 * 8 + (if false then 1 else 0) from by simp; omega]
          rw [e, hTe.out, D6.bytes])
        have hin : InB [d.pro, 0, d.off * 8 / 256, d.off * 8 % 256, d.id / 16777216, d.id / 65536 % 256, d.id / 256 % 256, d.id % 256] := by
          intro x hx
          simp only [List.mem_cons, List.not_mem_nil, or_false] at hx
          rcases hx with rfl | rfl | rfl | rfl | rfl | rfl | rfl | rfl <;> omega
        have o1 := hO.alloc (.cells #[.int .u8 d.pro, .int .u8 0, .int .u8 (d.off * 8 / 256), .int .u8 (d.off * 8 % 256), .int .u8 (d.id / 16777216), .int .u8 (d.id / 65536 % 256), .int .u8 (d.id / 256 % 256), .int .u8 (d.id % 256)] 5)
        have y1 : By (wr.heap.size + 1) (wr.alloc (.cells #[.int .u8 d.pro, .int .u8 0, .int .u8 (d.off * 8 / 256), .int .u8 (d.off * 8 % 256), .int .u8 (d.id / 16777216), .int .u8 (d.id / 65536 % 256), .int .u8 (d.id / 256 % 256), .int .u8 (d.id % 256)] 5)) (some ⟨wr.heap.size, 0, none⟩) 8 8 [d.pro, 0, d.off * 8 / 256, d.off * 8 % 256, d.id / 16777216, d.id / 65536 % 256, d.id / 256 % 256, d.id % 256] := By.new wr 5 [d.pro, 0, d.off * 8 / 256, d.off * 8 % 256, d.id / 16777216, d.id / 65536 % 256, d.id / 256 % 256, d.id % 256] hin (show 8 ≤ 9223372036854775807 by decide)
        have hB1 := hBr.trans (((Below.refl wr.heap.size wr).alloc (Nat.le_refl _) (.cells #[.int .u8 d.pro, .int .u8 0, .int .u8 (d.off * 8 / 256), .int .u8 (d.off * 8 % 256), .int .u8 (d.id / 16777216), .int .u8 (d.id / 65536 % 256), .int .u8 (d.id / 256 % 256), .int .u8 (d.id % 256)] 5)).mono hBr.size)
        clear hf hTe hm hin
        go_wp2_with (first | (at_builtin; refine wpList_appB _ rfl _ _ 25 rfl Try.underlying25 infoB W2.heap.size _ _ rfl o1 _ _ 8 8 [d.pro, 0, d.off * 8 / 256, d.off * 8 % 256, d.id / 16777216, d.id / 65536 % 256, d.id / 256 % 256, d.id % 256] rfl y1 (by rw [hTLH.out]; omega) (Below.size hB1) ?_; intro v7 w7 o7 hg7 _; have hb7 := below_own (OwnB.own o1) hg7 (Below.size hB1); have hB7 := hB1.trans hb7; have c41 := (hH2.below hB7 hH2.lt).cell 41 (v := .slice bA d.bl.length bc) rfl; rw [hBLH.out] at c41; have yB7 := (hR2.body.below hB7 (Nat.le_refl _)); dsimp only at yB7; rw [hBLH.out] at yB7) | (at_builtin; refine wpList_appB _ rfl _ _ 25 rfl Try.underlying25 infoB W2.heap.size _ _ rfl o7 _ _ BL bc d.bl rfl yB7 (by rw [List.length_append, hTLH.out]; show TL + 8 + BL ≤ _; omega) (Below.size hB7) ?_; intro v9 w9 o9 hg9 _; have hb9 := below_own (OwnB.own o7) hg9 (Below.size hB7)))
        go_ret2
        rw [hby.out] at o9
        exact ⟨_, rfl, o9.more hBw2.size, hBw2.trans ((hB7.trans hb9).mono hBw2.size)⟩
      | true =>
        rw [hm] at c39
        have hby : Hid (T ++ [d.pro, 0, (d.off * 8 + 1) / 256, (d.off * 8 + 1) % 256, d.id / 16777216, d.id / 65536 % 256, d.id / 256 % 256, d.id % 256] ++ d.bl = d.bytes) := Lib.hid (by
          have e : [d.pro, 0, (d.off * 8 + 1) / 256, (d.off * 8 + 1) % 256, d.id / 16777216, d.id / 65536 % 256, d.id / 256 % 256, d.id % 256] = d.fb := by
            rw [D6.fb, if_pos hf, hm, show (d.off * 8 + 1) / 256 = d.off / 32 from by omega, show (d.off * 8 + 1) % 256 = d.off % 32 * 8 + (if true then 1 else 0) from by simp; omega]
          rw [e, hTe.out, D6.bytes])
        have hor : bits .or .u16 (d.off * 8) 1 = d.off * 8 + 1 := or_u16 1 (by omega) (by omega) (by omega) (by omega) (by omega) (by omega)
        have hin : InB [d.pro, 0, (d.off * 8 + 1) / 256, (d.off * 8 + 1) % 256, d.id / 16777216, d.id / 65536 % 256, d.id / 256 % 256, d.id % 256] := by
          intro x hx
          simp only [List.mem_cons, List.not_mem_nil, or_false] at hx
          rcases hx with rfl | rfl | rfl | rfl | rfl | rfl | rfl | rfl <;> omega
        have o1 := hO.alloc (.cells #[.int .u8 d.pro, .int .u8 0, .int .u8 ((d.off * 8 + 1) / 256), .int .u8 ((d.off * 8 + 1) % 256), .int .u8 (d.id / 16777216), .int .u8 (d.id / 65536 % 256), .int .u8 (d.id / 256 % 256), .int .u8 (d.id % 256)] 5)
        have y1 : By (wr.heap.size + 1) (wr.alloc (.cells #[.int .u8 d.pro, .int .u8 0, .int .u8 ((d.off * 8 + 1) / 256), .int .u8 ((d.off * 8 + 1) % 256), .int .u8 (d.id / 16777216), .int .u8 (d.id / 65536 % 256), .int .u8 (d.id / 256 % 256), .int .u8 (d.id % 256)] 5)) (some ⟨wr.heap.size, 0, none⟩) 8 8 [d.pro, 0, (d.off * 8 + 1) / 256, (d.off * 8 + 1) % 256, d.id / 16777216, d.id / 65536 % 256, d.id / 256 % 256, d.id % 256] := By.new wr 5 [d.pro, 0, (d.off * 8 + 1) / 256, (d.off * 8 + 1) % 256, d.id / 16777216, d.id / 65536 % 256, d.id / 256 % 256, d.id % 256] hin (show 8 ≤ 9223372036854775807 by decide)
        have hB1 := hBr.trans (((Below.refl wr.heap.size wr).alloc (Nat.le_refl _) (.cells #[.int .u8 d.pro, .int .u8 0, .int .u8 ((d.off * 8 + 1) / 256), .int .u8 ((d.off * 8 + 1) % 256), .int .u8 (d.id / 16777216), .int .u8 (d.id / 65536 % 256), .int .u8 (d.id / 256 % 256), .int .u8 (d.id % 256)] 5)).mono hBr.size)
        clear hf hTe hm hin
        go_wp2_with (first | (at_builtin; refine wpList_appB _ rfl _ _ 25 rfl Try.underlying25 infoB W2.heap.size _ _ rfl o1 _ _ 8 8 [d.pro, 0, (d.off * 8 + 1) / 256, (d.off * 8 + 1) % 256, d.id / 16777216, d.id / 65536 % 256, d.id / 256 % 256, d.id % 256] rfl y1 (by rw [hTLH.out]; omega) (Below.size hB1) ?_; intro v7 w7 o7 hg7 _; have hb7 := below_own (OwnB.own o1) hg7 (Below.size hB1); have hB7 := hB1.trans hb7; have c41 := (hH2.below hB7 hH2.lt).cell 41 (v := .slice bA d.bl.length bc) rfl; rw [hBLH.out] at c41; have yB7 := (hR2.body.below hB7 (Nat.le_refl _)); dsimp only at yB7; rw [hBLH.out] at yB7) | (at_builtin; refine wpList_appB _ rfl _ _ 25 rfl Try.underlying25 infoB W2.heap.size _ _ rfl o7 _ _ BL bc d.bl rfl yB7 (by rw [List.length_append, hTLH.out]; show TL + 8 + BL ≤ _; omega) (Below.size hB7) ?_; intro v9 w9 o9 hg9 _; have hb9 := below_own (OwnB.own o7) hg9 (Below.size hB7)))
        go_ret2
        rw [hby.out] at o9
        exact ⟨_, rfl, o9.more hBw2.size, hBw2.trans ((hB7.trans hb9).mono hBw2.size)⟩
  case pos =>
  have hkz : (k : Int) < (M : Int) := by omega
  obtain ⟨⟨pk, pA, pc, pl⟩, hp⟩ : ∃ p', ps[k]? = some p' := ⟨ps[k]'(by rw [hMn]; exact hkM), List.getElem?_eq_getElem _⟩
  have hdk := drop_kd (hs := d.hs) hR.hl hp
  have K := hR2.hd
  dsimp only at K
  obtain ⟨b1, o1, hA1, hb1, hr1, hr2, yP, e0, e1, hld⟩ := K.loadHead hp
  have hld := hld wr hBr
  subst hA1
  dsimp only at hr1 hr2 yP hld hdk
  obtain ⟨m, hm⟩ : ∃ m, pl.length = m := ⟨_, rfl⟩
  rw [hm] at hld yP
  obtain ⟨kn, hkn⟩ : ∃ kn, nxt d.last (d.hs.drop (k + 1)) = kn := ⟨_, rfl⟩
  have kc : W2.cell? ⟨b5, o5 + (k + 1), none⟩ = _ := y5.atO (k := k + 1) (by omega)
  have hkn2 := hkgH.out (k + 1) (by omega)
  rw [hkn] at hkn2
  rw [hkn2] at kc
  have hmm := okH_at r3H.out (kd_get (hs := d.hs) hR.hl hp)
  dsimp only at hmm
  rw [hm] at hmm
  have hm1 : 6 ≤ m ∧ m ≤ 2046 := by omega
  have hknr : 0 ≤ kn ∧ kn ≤ 255 := by rw [← hkn]; exact nxt_rng hlast (fun x hx => hrngH.out x (List.mem_of_mem_drop hx))
  have hTn : Hid (T ++ [kn, ((m : Int) + 2) / 8 - 1] ++ pl ++ hb d.last (d.hs.drop (k + 1)) = d.pre ++ hb d.last d.hs) := Lib.hid (by
    rw [← hT.out, hdk]
    simp only [hb, hkn, hm, List.append_assoc, List.cons_append, List.nil_append])
  have hin2 : InB [kn, ((m : Int) + 2) / 8 - 1] := by
    intro x hx
    simp only [List.mem_cons, List.not_mem_nil, or_false] at hx
    rcases hx with rfl | rfl <;> omega
  obtain ⟨W4, hW4, hH4, hX⟩ := head_var wr pk pA m pc
  have hB4 := hBr.trans (hX.mono hBr.size)
  have hN : Has (wr.alloc (.cells #[.int .u8 0, .slice none 0 0] 93)) wr.heap.size (.cells #[.int .u8 0, .slice none 0 0] 93 (0, 0)) := Has.newAt rfl
  have o1 := (hO.below hX).drew
  have hne : u9.ownBlock ≠ some wr.heap.size := fun e => absurd (hO.base _ e).2 (Nat.lt_irrefl _)
  obtain ⟨TL, hTL⟩ : ∃ TL, T.length = TL := ⟨_, rfl⟩
  have hTlH := Lib.hid hTL
  rw [hTL] at hTl
  have hk1 : k + 1 < KL := by omega
  clear hp hdk hT hm K e0 e1 hkn hkn2 hmm hTL o8 c41 c35 hHBl hkgH
  go_wp2_with (first | (refine wl (.pointer (some ⟨b1, o1 + k * 2, none⟩)) (by kernel_rfl) (by exact ex_index2 (by exact rfl) Try.underlying34 (by kernel_rfl) (by exact rfl) (by exact rfl) hkM) ?_) | (refine wl (.agg #[.int .u8 pk, .slice pA m pc]) (by kernel_rfl) (by exact ex_loadAt (by exact rfl) (by exact rfl) hld) ?_) | (refine wpList_store_row rfl 93 (.tmp 11) (.tmp 70) rfl wr.heap.size _ rfl rfl 93 _ hN head_info rfl (by simp [Value.oneCell']) ?_))
  refine wp_region_held_drew (S := fun W => Below W2.heap.size W2 W ∧ Has W wr.heap.size (.cells #[.int .u8 pk, .slice pA m pc] 93 (0, 0))) (by kernel_rfl) (⟨hB4.trans (below_drew _ _), hH4.drew⟩) (fun hS => ?_)
  generalize W4.drew = W5 at hS o1 ⊢
  refine te 0 (u9) hS rfl (by intro _ _; exact rfl) ?_
  simp only [lay]
  refine te 1 (.slice (some ⟨b5, o5, none⟩) KL c5) hS rfl (by intro _ _; exact rfl) ?_
  simp only [lay]
  refine te 2 (.int .i64 (k : Int)) hS rfl (by intro _ _; exact rfl) ?_
  simp only [lay]
  refine te 3 (.int .i64 ((k + 1 : Nat) : Int)) hS rfl (by intro _ _; exact ex_bin (by exact rfl) (by exact rfl) (by exact rfl) (by decide) (add1_i64 _ _ (by omega) _)) ?_
  simp only [lay]
  refine te 4 (.pointer (some ⟨b5, o5 + (k + 1), none⟩)) hS rfl (by intro _ _; exact ex_index (by exact rfl) Try.underlying25 (by kernel_rfl) (by exact rfl) (by exact rfl) hk1) ?_
  simp only [lay]
  refine te 5 (.int .u8 kn) hS rfl (by intro _ h; exact ex_cell (by exact rfl) Try.underlying5 rfl (by exact rfl) ((h.1.cell (p := ⟨b5, o5 + (k + 1), none⟩) hb5).trans kc)) ?_
  simp only [lay]
  refine te 6 (.pointer (some ⟨wr.heap.size, 1, none⟩)) hS rfl (by intro _ _; exact ex_field 1 0 (by exact rfl) Try.underlying93 (by exact rfl) rfl (by kernel_rfl) (by exact rfl)) ?_
  simp only [lay]
  refine te 7 (.slice pA m pc) hS rfl (by intro _ h; exact ex_cell (by exact rfl) Try.underlying25 rfl (by exact rfl) (h.2.cell 1 rfl)) ?_
  simp only [lay]
  refine te 8 (.int .i64 (m : Int)) hS rfl (by intro _ _; exact ex_len (by exact rfl) Try.underlying25 (by exact rfl)) ?_
  simp only [lay]
  refine te 9 (.int .i64 ((m : Int) + 2)) hS rfl (by intro _ _; exact ex_bin (by exact rfl) (by exact rfl) (by exact rfl) (by decide) (b_add _ _ rfl (by omega) _)) ?_
  simp only [lay]
  refine te 10 (.int .i64 (((m : Int) + 2) / 8)) hS rfl (by intro _ _; exact ex_bin (by exact rfl) (by exact rfl) (by exact rfl) (by decide) (b_quo _ _ rfl (by omega) (by decide) _)) ?_
  simp only [lay]
  refine te 11 (.int .i64 (((m : Int) + 2) / 8 - 1)) hS rfl (by intro _ _; exact ex_bin (by exact rfl) (by exact rfl) (by exact rfl) (by decide) (b_sub _ _ rfl (by omega) _)) ?_
  simp only [lay]
  refine te 12 (.int .u8 (((m : Int) + 2) / 8 - 1)) hS rfl (by intro _ h; exact ex_conv (by exact rfl) (by exact rfl) (conv_u8' _ _ _ _ rfl rfl (by omega) _)) ?_
  simp only [lay]
  refine tk_one (by kernel_rfl) (op_build (i := 13) (u8s [kn, ((m : Int) + 2) / 8 - 1]) rfl (by kernel_rfl) rfl Try.underlying25 (by kernel_rfl) (by kernel_rfl) rfl (by decide) (by decide) (by first | rfl | (simp only [List.map_toArray, List.map_cons, List.map_nil] <;> rfl)) (u8s_cells _) (fun _ hb => ⟨hS.1.trans (hb.mono (Below.size hS.1)), hS.2.below hb hS.2.lt⟩) ?_)
  intro g5 W6 hQ5 hge5 _ hb6 hS6
  have o2 := o1.below hb6
  have yq : By (g5 + 1) W6 (some ⟨g5, 0, none⟩) 2 2 [kn, ((m : Int) + 2) / 8 - 1] := By.blk' (t := 5) (fz := (0, 0)) hQ5 (Nat.lt_succ_self _) hin2 (show 2 ≤ 9223372036854775807 by decide) rfl rfl
  simp only [lay]
  refine tk_one (by kernel_rfl) (op_appS (i := 14) (.tmp 71) (.tmp 84) _ rfl (by kernel_rfl) rfl Try.underlying25 infoB W2.heap.size _ _ rfl o2 _ _ _ _ _ rfl (yq) (by rw [hTlH.out]; omega) (Below.size hS6.1) (fun _ hg => ⟨hS6.1.trans (below_app o2 hg (Below.size hS6.1)), hS6.2.grownN hg hne⟩) ?_)
  intro v7 W7 o3 hg3 _ hS7
  simp only [lay]
  refine te 15 (v7) hS7 rfl (by intro _ _; exact rfl) ?_
  simp only [lay]
  refine wpAnyH_done (by kernel_rfl) ?_ _
  have c1 := hS7.2.cell 1 (v := .slice pA m pc) rfl
  have yP7 := yP.below hS7.1 (Nat.le_refl _)
  have hl3 : (T ++ [kn, ((m : Int) + 2) / 8 - 1]).length = TL + 2 := by rw [List.length_append, hTlH.out]; rfl
  have hl3H := Lib.hid hl3
  clear hl3
  go_wp2_with (at_builtin; refine wpList_appB _ rfl _ _ 25 rfl Try.underlying25 infoB W2.heap.size _ _ rfl o3 _ _ m pc pl rfl yP7 (by rw [hl3H.out]; omega) (Below.size hS7.1) ?_; intro v9 w9 o9 hg9 _; have hb9 := below_own o3.own hg9 (Below.size hS7.1))
  go_roundw
  case rel => exact ⟨k + 1, T ++ [kn, ((m : Int) + 2) / 8 - 1] ++ pl, by omega, by go_num, o9, hTn, hS7.1.trans hb9⟩
  case measure => simp [intOf]; omega
end Go.Proofs.Ytijnifbpbgckgaa
namespace Go.Proofs.Ytijnifbpbgckgaa
open Go.RowKit Go.Shelf

set_option maxRecDepth 100000 in
theorem write6_err (d : D6) (p : W6) (w : World) (hR : Rd6 w.heap.size w d p) (h0 : d.check ≠ 0) :
    Calls Try.prog 54 #[.agg (d.cells p)] w fun e w' => e = .returned (.tuple #[.slice none 0 0, .int .i64 d.check]) ∧ Below w.heap.size w w' := by
  have hB : Below w.heap.size w (w.alloc (.cells (d.cells p) 36)) := (Below.refl _ _).alloc (Nat.le_refl _) _
  have hH : Has (w.alloc (.cells (d.cells p) 36)) w.heap.size (.cells (d.cells p) 36 (0, 0)) := Has.newAt rfl
  have hcH := Lib.hid (size6_any d p (w.alloc (.cells (d.cells p) 36)) ((hR.below hB (Nat.le_refl _)).more hB.size))
  have hz : (d.cells p).size = 42 := rfl
  have hcsH := Lib.hid (d.check_cases.resolve_left h0)
  clear h0
  go_enter Try.func54, Try.ntmps54
  go_wp2_with (refine wpList_load_row rfl 36 (.tmp 1) rfl w.heap.size rfl 36 (d.cells p) (0, 0) _ hH Try.underlying36 rfl v6_info ?_)
  refine hcH.out.mono ?_
  rintro e w1 ⟨⟨q, r, s, rfl, hq⟩, hb1⟩
  clear hcH
  have hq2 : s = 54 ∨ s = 2 := by rw [hq.out.2.2]; exact hcsH.out
  rcases hq2 with rfl | rfl
  · go_wp2
    go_ret2
    exact ⟨by rw [← hq.out.2.2]; rfl, hB.trans (hb1.mono hB.size)⟩
  · go_wp2
    go_ret2
    exact ⟨by rw [← hq.out.2.2]; rfl, hB.trans (hb1.mono hB.size)⟩
/-- bytes of the call's own, and an error's number -/
def Wrote (w w' : World) (l : List Int) (c : Int) (e : Ending) : Prop := ∃ v s, e = .returned (.tuple #[v, .int .i64 s]) ∧ Hid (s = c) ∧ OwnB w' w.heap.size v l ∧ Below w.heap.size w w'
theorem write6_any (d : D6) (p : W6) (w : World) (hR : Rd6 w.heap.size w d p) :
    Calls Try.prog 54 #[.agg (d.cells p)] w fun e w' => Wrote w w' d.write d.check e := by
  by_cases h0 : d.check = 0
  · refine (write6_ok d p w hR h0).mono ?_
    rintro e w' ⟨v, rfl, ho, hb⟩
    refine ⟨v, 0, rfl, Lib.hid h0.symm, ?_, hb⟩
    unfold D6.write
    rw [if_pos h0]
    exact ho
  · refine (write6_err d p w hR h0).mono ?_
    rintro e w' ⟨rfl, hb⟩
    refine ⟨_, _, rfl, Lib.hid rfl, ?_, hb⟩
    unfold D6.write
    rw [if_neg h0]
    exact OwnB.nil _ _
end Go.Proofs.Ytijnifbpbgckgaa
