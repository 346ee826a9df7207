/-
  Lemmas and walks for the row of TosixPackets (part 45 of 45).
-/
import Derived.Test.YtijnifbpbgckgaaTpAF
import Derived.Test.YtijnifbpbgckgaaTpBR
set_option linter.unusedVariables false
set_option linter.unusedSimpArgs false
namespace Go.Proofs.Ytijnifbpbgckgaa
open Go.RowKit Go.Shelf
attribute [local irreducible] wpList Code.wp Oper.wp wpOp wpAnyH

set_option maxRecDepth 100000 in
set_option maxHeartbeats 4000000 in
theorem packets17_walk (d : D4) (p : W4) (s t s' t' : List Int) (w : World) (hR : Rd4 w.heap.size w d p) (hE : E6ok s t) (hE' : E6ok s' t') :
  Calls Try.prog 3 #[.agg (d.cells p), .agg (ends6 s t), .agg (ends6 s' t')] w fun e w' => e = .returned (.bool true) ∧ Below w.heap.size w w' := by
 obtain ⟨C, hC⟩ : ∃ x, cut17 d = x := ⟨_, rfl⟩
 have hRC := cut17_rd hR
 rw [hC] at hRC
 have yoC := hRC.opt
 have ybC := hRC.body
 obtain ⟨PD, hPD⟩ : ∃ x, (pack17 C s t s' t').1 = x := ⟨_, rfl⟩
 obtain ⟨PE, hPE⟩ : ∃ x, (pack17 C s t s' t').2 = x := ⟨_, rfl⟩
 go_enter Try.func3, Try.ntmps3
 refine wp_sr ?_
 refine lz (ow_box 27 (.tmp 0) _ rfl rfl ?_)
 intro g1 W2 hg3 ge4 sz5 hb6
 have z7 := hb6.size
 simp only [lay]
 refine lz (ow_box 31 (.tmp 1) _ rfl rfl ?_)
 intro g8 W9 hg10 ge11 sz12 hb13
 have z14 := hb13.size
 simp only [lay]
 refine lz (ow_box 31 (.tmp 2) _ rfl rfl ?_)
 intro g15 W16 hg17 ge18 sz19 hb20
 have z21 := hb20.size
 simp only [lay]
 refine lv (.bool false) (by exact xa) ?_
 simp only [lay]
 refine wn ?_
 refine wp_sr ?_
 have b22 := bt hb13 hb20
 have has23 := hg3.to b22
 refine lv (.agg (d.cells p)) (by exact xo (has23.load (P := Try.prog) 27 Try.underlying27 rfl (by kernel_rfl))) ?_
 simp only [lay]
 have b24 := bt hb6 hb13
 have b25 := bt b24 hb20
 have rd26 := hR.to b25
 refine lz (ow_call (fun v w' => v = .agg (C.cells p) ∧ Below W16.heap.size W16 w') (by exact xk Try.func9) ((cut17_any d p W16 rd26).mono fun e w' h => ⟨_, h.1, by rw [hC], h.2⟩) ?_)
 rintro _ W27 ⟨rfl, hb28⟩
 have z29 := hb28.size
 simp only [lay]
 have b34 := bt b22 hb28
 have has35 := hg3.to b34
 refine lz (ow_st 27 (.tmp 3) (.tmp 12) g1 (C.cells p) _ _ rfl (by exact rfl) (by exact rfl) has35 (by kernel_rfl) rfl (by kernel_rfl) ?_)
 intro W30 hg31 bs32 hb33
 have b36 := bt hb20 hb28
 have has37 := hg10.to b36
 have has38 := hg17.to hb28
 have z39 := hb33.size
 have has40 := has37.but6 bs32 (by omega)
 have has41 := has38.but6 bs32 (by omega)
 simp only [lay]
 refine wn ?_
 refine wp_sr ?_
 refine lv (.agg (C.cells p)) (by exact xo (hg31.load (P := Try.prog) 27 Try.underlying27 rfl (by kernel_rfl))) ?_
 simp only [lay]
 refine lv (.agg (ends6 s t)) (by exact xo (has40.load (P := Try.prog) 31 Try.underlying31 rfl (by kernel_rfl))) ?_
 simp only [lay]
 refine lv (.agg (ends6 s' t')) (by exact xo (has41.load (P := Try.prog) 31 Try.underlying31 rfl (by kernel_rfl))) ?_
 simp only [lay]
 have b42 := bt b25 hb28
 have l43 : w.heap.size ≤ g1 := Nat.le_of_eq ge4.symm
 have b44 := b42.trans (hb33.mono l43)
 have rd45 := hRC.to b44
 refine lz (ow_call (fun v w' => (∃ q, v = .tuple #[.agg (PD.cells q), .int .i64 PE] ∧ Own6 w' W30.heap.size PD q) ∧ Below W30.heap.size W30 w') (by exact xk Try.func10) ((pack17_any C p s t s' t' hE hE' W30 rd45).mono (by rintro e w' ⟨⟨q, rfl, ho⟩, hb⟩; rw [hPD] at ho; exact ⟨_, rfl, ⟨q, by rw [hPD, hPE], ho⟩, hb⟩)) ?_)
 rintro _ W46 ⟨⟨p48, rfl, ho49⟩, hb47⟩
 have z50 := hb47.size
 simp only [lay]
 refine lv (.tuple #[.agg (PD.cells p48), .int .i64 PE]) (by exact xm) ?_
 simp only [lay]
 refine lv (.agg (PD.cells p48)) (by exact xe) ?_
 simp only [lay]
 refine lv (.int .i64 PE) (by exact xe) ?_
 simp only [lay]
 refine lz (oa #[.int .u8 0, .int .u32 0, .int .u8 0, .int .u8 0, .int .u8 0, .int .u8 0, .int .u8 0, .int .u8 0, .int .u8 0, .int .u8 0, .int .u8 0, .int .u8 0, .int .u8 0, .int .u8 0, .int .u8 0, .int .u8 0, .int .u8 0, .int .u8 0, .int .u8 0, .int .u8 0, .int .u8 0, .int .u8 0, .int .u8 0, .int .u8 0, .int .u8 0, .int .u8 0, .int .u8 0, .int .u8 0, .int .u8 0, .int .u8 0, .int .u8 0, .int .u8 0, .int .u8 0, .int .u8 0, .int .u8 0, .slice none 0 0, .bool false, .int .u32 0, .int .i64 0, .bool false, .int .u8 0, .slice none 0 0] ?_)
 intro g51 W52 hg53 ge54 sz55 hb56
 have z57 := hb56.size
 simp only [lay]
 refine lz (ow_st 36 (.tmp 7) (.tmp 18) g51 (PD.cells p48) _ _ rfl (by exact rfl) (by exact rfl) hg53 (by kernel_rfl) rfl (by kernel_rfl) ?_)
 intro W58 hg59 bs60 hb61
 have z62 := hb61.size
 simp only [lay]
 refine lv (.int .i64 PE) (by exact xa) ?_
 simp only [lay]
 refine wn ?_
 refine wp_sr ?_
 have b63 := bt hb47 hb56
 have l64 := lq hb47 ge54
 have b65 := b63.trans (hb61.mono l64)
 have has66 := hg31.to b65
 refine lv (.agg (C.cells p)) (by exact xo (has66.load (P := Try.prog) 27 Try.underlying27 rfl (by kernel_rfl))) ?_
 simp only [lay]
 have has67 := has40.to b65
 refine lv (.agg (ends6 s t)) (by exact xo (has67.load (P := Try.prog) 31 Try.underlying31 rfl (by kernel_rfl))) ?_
 simp only [lay]
 have has68 := has41.to b65
 refine lv (.agg (ends6 s' t')) (by exact xo (has68.load (P := Try.prog) 31 Try.underlying31 rfl (by kernel_rfl))) ?_
 simp only [lay]
 have b69 := bt b44 hb47
 have b70 := bt b69 hb56
 have l71 := lq b69 ge54
 have b72 := b70.trans (hb61.mono l71)
 have rd73 := hRC.to b72
 refine lz (ow_call (fun v w' => (∃ q, v = .tuple #[.agg (PD.cells q), .int .i64 PE] ∧ Own6 w' W58.heap.size PD q) ∧ Below W58.heap.size W58 w') (by exact xk Try.func11) ((rpack17_any C p s t s' t' hE hE' W58 rd73).mono (by rintro e w' ⟨⟨q, rfl, ho⟩, hb⟩; rw [hPD] at ho; exact ⟨_, rfl, ⟨q, by rw [hPD, hPE], ho⟩, hb⟩)) ?_)
 rintro _ W74 ⟨⟨p76, rfl, ho77⟩, hb75⟩
 have z78 := hb75.size
 simp only [lay]
 refine lv (.tuple #[.agg (PD.cells p76), .int .i64 PE]) (by exact xm) ?_
 simp only [lay]
 refine lv (.agg (PD.cells p76)) (by exact xe) ?_
 simp only [lay]
 refine lv (.int .i64 PE) (by exact xe) ?_
 simp only [lay]
 refine lz (oa #[.int .u8 0, .int .u32 0, .int .u8 0, .int .u8 0, .int .u8 0, .int .u8 0, .int .u8 0, .int .u8 0, .int .u8 0, .int .u8 0, .int .u8 0, .int .u8 0, .int .u8 0, .int .u8 0, .int .u8 0, .int .u8 0, .int .u8 0, .int .u8 0, .int .u8 0, .int .u8 0, .int .u8 0, .int .u8 0, .int .u8 0, .int .u8 0, .int .u8 0, .int .u8 0, .int .u8 0, .int .u8 0, .int .u8 0, .int .u8 0, .int .u8 0, .int .u8 0, .int .u8 0, .int .u8 0, .int .u8 0, .slice none 0 0, .bool false, .int .u32 0, .int .i64 0, .bool false, .int .u8 0, .slice none 0 0] ?_)
 intro g79 W80 hg81 ge82 sz83 hb84
 have z85 := hb84.size
 simp only [lay]
 refine lz (ow_st 36 (.tmp 9) (.tmp 25) g79 (PD.cells p76) _ _ rfl (by exact rfl) (by exact rfl) hg81 (by kernel_rfl) rfl (by kernel_rfl) ?_)
 intro W86 hg87 bs88 hb89
 have z90 := hb89.size
 simp only [lay]
 refine lv (.int .i64 PE) (by exact xa) ?_
 simp only [lay]
 refine wn ?_
 refine wp_sr ?_
 have b91 := bt hb75 hb84
 have l92 := lq hb75 ge82
 have b93 := b91.trans (hb89.mono l92)
 have has94 := hg59.to b93
 refine lv (.agg (PD.cells p48)) (by exact xo (has94.load (P := Try.prog) 36 Try.underlying36 rfl (by kernel_rfl))) ?_
 simp only [lay]
 refine lv (.agg (PD.cells p76)) (by exact xo (hg87.load (P := Try.prog) 36 Try.underlying36 rfl (by kernel_rfl))) ?_
 simp only [lay]
 have l95 : W46.heap.size ≤ g51 := Nat.le_of_eq ge54.symm
 have b96 := hb56.trans (hb61.mono l95)
 have b97 := bt b96 hb75
 have b98 := bt b97 hb84
 have l99 := lq b97 ge82
 have b100 := b98.trans (hb89.mono l99)
 have own6101 := ho49.to b100
 have l102 : W74.heap.size ≤ g79 := Nat.le_of_eq ge82.symm
 have b103 := hb84.trans (hb89.mono l102)
 have own6104 := ho77.to b103
 refine lz (ow_call (fun v w' => v = .bool true ∧ Below W86.heap.size W86 w') (by exact xk Try.func12) ((rsame6_any PD PD p48 p76 W86 own6101.rd own6104.rd).mono (by rintro e w' ⟨⟨q, rfl, hq⟩, hb⟩; obtain rfl : q = true := hq.out.trans (same6_self _); exact ⟨_, rfl, rfl, hb⟩)) ?_)
 rintro _ W105 ⟨rfl, hb106⟩
 have z107 := hb106.size
 simp only [lay]
 refine lv (.bool true) (by exact xm) ?_
 simp only [lay]
 refine lv (.int .i64 PE) (by exact xm) ?_
 simp only [lay]
 refine lv (.int .i64 PE) (by exact xm) ?_
 simp only [lay]
 refine lv (.bool true) (by exact yq (h := rfl)) ?_
 simp only [lay]
 refine lv (.bool true) (by exact xp (b := true)) ?_
 simp only [lay]
 refine lv (.bool true) (by exact xm) ?_
 simp only [lay]
 refine lz (ow_call (fun v w' => v = .bool true ∧ Below W105.heap.size W105 w') (by exact xk Try.func13) ((alive17_any W105).mono fun e w' h => ⟨_, h.1, rfl, h.2⟩) ?_)
 rintro _ W108 ⟨rfl, hb109⟩
 have z110 := hb109.size
 simp only [lay]
 refine lv (.bool true) (by exact xp (b := true)) ?_
 simp only [lay]
 refine lv (.bool true) (by exact xa) ?_
 simp only [lay]
 refine wn ?_
 refine wp_ret ?_
 try simp only [Exit.then]
 have b111 := bt b72 hb75
 have b112 := bt b111 hb84
 have l113 := lq b111 ge82
 have b114 := b112.trans (hb89.mono l113)
 have b115 := bt b114 hb106
 have b116 := bt b115 hb109
 exact bodyPost_ret (res_one Try.results3 rfl) rfl ⟨rfl, b116⟩
end Go.Proofs.Ytijnifbpbgckgaa
