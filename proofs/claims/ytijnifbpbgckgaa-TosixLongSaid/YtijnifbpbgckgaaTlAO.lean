/-
  Lemmas and walks for the row of TosixLong (part 15 of 37).
-/
import Derived.Test.YtijnifbpbgckgaaTlAB
import Derived.Test.YtijnifbpbgckgaaTlAG
import Derived.Test.YtijnifbpbgckgaaTlAH
import Derived.Test.YtijnifbpbgckgaaTlAL
import Derived.Test.YtijnifbpbgckgaaTlAM
import Derived.Test.YtijnifbpbgckgaaTlAN
import Derived.Deep.RegionWith
set_option linter.unusedVariables false
set_option linter.unusedSimpArgs false
namespace Go.Proofs.Ytijnifbpbgckgaa
open Go.RowKit Go.Shelf
attribute [local irreducible] wpList Code.wp Oper.wp wpOp wpAnyH

set_option maxRecDepth 100000 in
theorem fragment_any (d : D4) (p : W4) (w : World) :
  Calls Try.prog 39 #[.agg (d.cells p)] w fun e w' => e = .returned (.bool d.part) ∧ Below w.heap.size w w' := by
 go_enter Try.func39, Try.ntmps39
 refine wp_sr ?_
 refine lz (ow_box 27 (.tmp 0) _ rfl rfl ?_)
 intro g1 W2 hg3 ge4 sz5 hb6
 have z7 := hb6.size
 simp only [lay]
 refine lv (.bool false) (by exact xa) ?_
 simp only [lay]
 refine wn ?_
 refine wp_sr ?_
 refine lv (.pointer (some ⟨g1, 3, none⟩)) (by exact xf 3 0 Try.underlying27) ?_
 simp only [lay]
 refine lv (.bool d.mf) (by exact xc Try.underlying4 (hg3.cell 3 rfl)) ?_
 simp only [lay]
 refine lv (.bool d.mf) (by exact xm) ?_
 simp only [lay]
 by_cases q8 : d.mf = true
 case pos =>
  rw [q8]
  refine lzn ?_
  simp only [lay]
  refine lzn ?_
  simp only [lay]
  refine lzn ?_
  simp only [lay]
  refine lv (.bool true) (by exact xp (b := true)) ?_
  simp only [lay]
  refine lv (.bool true) (by exact xa) ?_
  simp only [lay]
  refine wn ?_
  refine wp_ret ?_
  try simp only [Exit.then]
  have e : d.part = true := by unfold D4.part; simp [*]; try omega
  exact bodyPost_ret (res_one Try.results39 rfl) rfl ⟨by rw [e]; rfl, hb6⟩
 replace q8 := eq_false_of_ne_true q8
 rw [q8]
 refine lv (.pointer (some ⟨g1, 4, none⟩)) (by exact xf 4 0 Try.underlying27) ?_
 simp only [lay]
 refine lv (.int .i64 d.off) (by exact xc Try.underlying3 (hg3.cell 4 rfl)) ?_
 simp only [lay]
 by_cases q9 : d.off > 0
 case pos =>
  refine lv (.bool true) (by exact ex_gtr (by exact rfl) (by exact rfl) (by exact rfl) (decide_eq_true (by first | assumption | omega | decide))) ?_
  simp only [lay]
  refine lv (.bool true) (by exact xp (b := false)) ?_
  simp only [lay]
  refine lv (.bool true) (by exact xa) ?_
  simp only [lay]
  refine wn ?_
  refine wp_ret ?_
  try simp only [Exit.then]
  have e : d.part = true := by unfold D4.part; simp [*]; try omega
  exact bodyPost_ret (res_one Try.results39 rfl) rfl ⟨by rw [e]; rfl, hb6⟩
 refine lv (.bool false) (by exact ex_gtr (by exact rfl) (by exact rfl) (by exact rfl) (decide_eq_false (by first | assumption | omega | decide))) ?_
 simp only [lay]
 refine lv (.bool false) (by exact xp (b := false)) ?_
 simp only [lay]
 refine lv (.bool false) (by exact xa) ?_
 simp only [lay]
 refine wn ?_
 refine wp_ret ?_
 try simp only [Exit.then]
 have e : d.part = false := by unfold D4.part; simp [*]; try omega
 exact bodyPost_ret (res_one Try.results39 rfl) rfl ⟨by rw [e]; rfl, hb6⟩
set_option maxRecDepth 100000 in
theorem header_any (d : D4) (hd : d.ok) (p : W4) (s t : List Int) (w : World) :
  Calls Try.prog 38 #[.agg (d.cells p), .agg (ends6 s t)] w fun e w' => e = .returned (.agg ((head17 d s t []).cells pZ6)) ∧ Below w.heap.size w w' := by
 have r1 := hd.id
 go_enter Try.func38, Try.ntmps38
 refine wp_sr ?_
 refine lz (ow_box 27 (.tmp 0) _ rfl rfl ?_)
 intro g1 W2 hg3 ge4 sz5 hb6
 have z7 := hb6.size
 simp only [lay]
 refine lz (ow_box 31 (.tmp 1) _ rfl rfl ?_)
 intro g8 W9 hg10 ge11 sz12 hb13
 have z14 := hb13.size
 simp only [lay]
 refine lz (oa #[.int .u8 0, .int .u32 0, .int .u8 0, .int .u8 0, .int .u8 0, .int .u8 0, .int .u8 0, .int .u8 0, .int .u8 0, .int .u8 0, .int .u8 0, .int .u8 0, .int .u8 0, .int .u8 0, .int .u8 0, .int .u8 0, .int .u8 0, .int .u8 0, .int .u8 0, .int .u8 0, .int .u8 0, .int .u8 0, .int .u8 0, .int .u8 0, .int .u8 0, .int .u8 0, .int .u8 0, .int .u8 0, .int .u8 0, .int .u8 0, .int .u8 0, .int .u8 0, .int .u8 0, .int .u8 0, .int .u8 0, .slice none 0 0, .bool false, .int .u32 0, .int .i64 0, .bool false, .int .u8 0, .slice none 0 0] ?_)
 intro g15 W16 hg17 ge18 sz19 hb20
 have z21 := hb20.size
 simp only [lay]
 refine wn ?_
 refine wp_sr ?_
 refine lv (.pointer (some ⟨g1, 0, none⟩)) (by exact xf 0 0 Try.underlying27) ?_
 simp only [lay]
 have b22 := bt hb13 hb20
 have has23 := hg3.to b22
 refine lv (.int .u8 d.tos) (by exact xc Try.underlying5 (has23.cell 0 rfl)) ?_
 simp only [lay]
 refine lv (.pointer (some ⟨g1, 5, none⟩)) (by exact xf 5 0 Try.underlying27) ?_
 simp only [lay]
 refine lv (.int .u8 d.ttl) (by exact xc Try.underlying5 (has23.cell 5 rfl)) ?_
 simp only [lay]
 refine lv (.pointer (some ⟨g8, 0, none⟩)) (by exact xf 0 15 Try.underlying31) ?_
 simp only [lay]
 have has24 := hg10.to hb20
 refine lv (.agg (a16 s)) (by exact ex_loadAt (by exact rfl) (by exact rfl) (has24.loadIn (P := Try.prog) 0 (w16 s) (by kernel_rfl) 29 Try.underlying29 rfl (by kernel_rfl))) ?_
 simp only [lay]
 refine lv (.pointer (some ⟨g8, 16, none⟩)) (by exact xf 16 15 Try.underlying31) ?_
 simp only [lay]
 refine lv (.agg (a16 t)) (by exact ex_loadAt (by exact rfl) (by exact rfl) (has24.loadIn (P := Try.prog) 16 (w16 t) (by kernel_rfl) 29 Try.underlying29 rfl (by kernel_rfl))) ?_
 simp only [lay]
 refine lv (.pointer (some ⟨g1, 6, none⟩)) (by exact xf 6 0 Try.underlying27) ?_
 simp only [lay]
 refine lv (.int .u8 d.proto) (by exact xc Try.underlying5 (has23.cell 6 rfl)) ?_
 simp only [lay]
 refine lv (.agg (h41 d.tos 0 d.ttl s t none 0 0 false 0 0 false d.proto none 0 0)) (by kernel_rfl) ?_
 simp only [lay]
 refine lz (oa #[.int .u8 0, .int .u32 0, .int .u8 0, .int .u8 0, .int .u8 0, .int .u8 0, .int .u8 0, .int .u8 0, .int .u8 0, .int .u8 0, .int .u8 0, .int .u8 0, .int .u8 0, .int .u8 0, .int .u8 0, .int .u8 0, .int .u8 0, .int .u8 0, .int .u8 0, .int .u8 0, .int .u8 0, .int .u8 0, .int .u8 0, .int .u8 0, .int .u8 0, .int .u8 0, .int .u8 0, .int .u8 0, .int .u8 0, .int .u8 0, .int .u8 0, .int .u8 0, .int .u8 0, .int .u8 0, .int .u8 0, .slice none 0 0, .bool false, .int .u32 0, .int .i64 0, .bool false, .int .u8 0, .slice none 0 0] ?_)
 intro g25 W26 hg27 ge28 sz29 hb30
 have z31 := hb30.size
 simp only [lay]
 refine lz (ow_st 36 (.tmp 5) (.tmp 16) g25 (h41 d.tos 0 d.ttl s t none 0 0 false 0 0 false d.proto none 0 0) _ _ rfl (by exact rfl) (by exact rfl) hg27 (by kernel_rfl) rfl (by kernel_rfl) ?_)
 intro W32 hg33 bs34 hb35
 have z36 := hb35.size
 simp only [lay]
 refine wn ?_
 refine wp_seq ?_
 refine wp_sr ?_
 refine lv (.pointer (some ⟨g1, 6, none⟩)) (by exact xf 6 0 Try.underlying27) ?_
 simp only [lay]
 have b37 := bt b22 hb30
 have l38 := lq b22 ge28
 have b39 := b37.trans (hb35.mono l38)
 have has40 := hg3.to b39
 refine lv (.int .u8 d.proto) (by exact xc Try.underlying5 (has40.cell 6 rfl)) ?_
 simp only [lay]
 by_cases q41 : d.proto = 1
 case pos =>
  refine lv (.bool true) (by exact yq) ?_
  simp only [lay]
  refine wn ?_
  refine wp_cond_true (by exact rfl) ?_
  refine wp_region_lit ?_
  refine lv (.pointer (some ⟨g25, 40, none⟩)) (by exact xf 40 0 Try.underlying36) ?_
  simp only [lay]
  refine lz (ow_st1 5 (.tmp 20) (.const (.int .u8 58)) g25 40 (.int .u8 58) _ (h41 d.tos 0 d.ttl s t none 0 0 false 0 0 false 58 none 0 0) _ rfl (by exact rfl) (by exact rfl) rfl (by kernel_rfl) hg33 rfl rfl (by kernel_rfl) ?_)
  intro W42 hg43 bs44 hb45
  have z46 := hb45.size
  simp only [lay]
  refine wn ?_
  refine wp_seq ?_
  refine wp_sr ?_
  have b47 := b39.trans (hb45.mono l38)
  have has48 := hg3.to b47
  refine lv (.agg (d.cells p)) (by exact xo (has48.load (P := Try.prog) 27 Try.underlying27 rfl (by kernel_rfl))) ?_
  simp only [lay]
  refine lz (ow_call (fun v w' => v = .bool d.part ∧ Below W42.heap.size W42 w') (by exact xk Try.func39) (by exact (fragment_any d p W42).mono fun e w' h => ⟨_, h.1, rfl, h.2⟩) ?_)
  rintro _ W49 ⟨rfl, hb50⟩
  have z51 := hb50.size
  simp only [lay]
  by_cases q52 : d.part = true
  case pos =>
   rw [q52]
   refine wn ?_
   refine wp_cond_true (by exact rfl) ?_
   refine rg_drawn g25 (by kernel_rfl) (by omega) ?_
   intro W53 hb54 hs55 hS56
   have z57 := hb54.size
   refine te 0 (.pointer (some ⟨g1, 1, none⟩)) hS56 rfl (by intro _ _; exact xf 1 0 Try.underlying27) ?_
   simp only [lay]
   have b58 := bt b47 hb50
   refine te 1 (.int .u16 d.id) hS56 rfl (by intro _ h; exact xc Try.underlying22 ((hg3.to (b58.trans (Below.mono h l38))).cell 1 rfl)) ?_
   simp only [lay]
   refine te 2 (.int .u32 d.id) hS56 rfl (by intro _ _; exact xv (conv_u32 22 33 .u16 d.id (by kernel_rfl) Try.underlying33 (by omega) (by omega) _)) ?_
   simp only [lay]
   refine te 3 (.pointer (some ⟨g1, 4, none⟩)) hS56 rfl (by intro _ _; exact xf 4 0 Try.underlying27) ?_
   simp only [lay]
   refine te 4 (.int .i64 d.off) hS56 rfl (by intro _ h; exact xc Try.underlying3 ((hg3.to (b58.trans (Below.mono h l38))).cell 4 rfl)) ?_
   simp only [lay]
   refine te 5 (.pointer (some ⟨g1, 3, none⟩)) hS56 rfl (by intro _ _; exact xf 3 0 Try.underlying27) ?_
   simp only [lay]
   refine te 6 (.bool d.mf) hS56 rfl (by intro _ h; exact xc Try.underlying4 ((hg3.to (b58.trans (Below.mono h l38))).cell 3 rfl)) ?_
   simp only [lay]
   refine te 7 (.pointer (some ⟨g25, 36, none⟩)) hS56 rfl (by intro _ _; exact xf 36 0 Try.underlying36) ?_
   simp only [lay]
   have b63 := bt hb50 hb54
   have has64 := hg43.to b63
   refine t1 8 rfl (ow_st1 4 (.tmp 30) (.const (.bool true)) g25 36 (.bool true) _ (h41 d.tos 0 d.ttl s t none 0 0 true 0 0 false 58 none 0 0) _ rfl (by exact rfl) (by exact rfl) rfl (by kernel_rfl) has64 rfl rfl (by kernel_rfl) ?_)
   intro W59 hg60 bs61 hb62
   have z65 := hb62.size
   refine ⟨(Below.trans hS56 hb62), ?_⟩
   have hS66 := (Below.trans hS56 hb62)
   simp only [lay]
   refine te 9 (.pointer (some ⟨g25, 37, none⟩)) hS66 rfl (by intro _ _; exact xf 37 0 Try.underlying36) ?_
   simp only [lay]
   refine t1 10 rfl (ow_st1 33 (.tmp 31) (.tmp 25) g25 37 (.int .u32 d.id) _ (h41 d.tos 0 d.ttl s t none 0 0 true d.id 0 false 58 none 0 0) _ rfl (by exact rfl) (by exact rfl) rfl (by kernel_rfl) hg60 rfl rfl (by kernel_rfl) ?_)
   intro W67 hg68 bs69 hb70
   have z71 := hb70.size
   refine ⟨(Below.trans hS66 hb70), ?_⟩
   have hS72 := (Below.trans hS66 hb70)
   simp only [lay]
   refine te 11 (.pointer (some ⟨g25, 38, none⟩)) hS72 rfl (by intro _ _; exact xf 38 0 Try.underlying36) ?_
   simp only [lay]
   refine t1 12 rfl (ow_st1 3 (.tmp 32) (.tmp 27) g25 38 (.int .i64 d.off) _ (h41 d.tos 0 d.ttl s t none 0 0 true d.id d.off false 58 none 0 0) _ rfl (by exact rfl) (by exact rfl) rfl (by kernel_rfl) hg68 rfl rfl (by kernel_rfl) ?_)
   intro W73 hg74 bs75 hb76
   have z77 := hb76.size
   refine ⟨(Below.trans hS72 hb76), ?_⟩
   have hS78 := (Below.trans hS72 hb76)
   simp only [lay]
   refine te 13 (.pointer (some ⟨g25, 39, none⟩)) hS78 rfl (by intro _ _; exact xf 39 0 Try.underlying36) ?_
   simp only [lay]
   refine t1 14 rfl (ow_st1 4 (.tmp 33) (.tmp 29) g25 39 (.bool d.mf) _ (h41 d.tos 0 d.ttl s t none 0 0 true d.id d.off d.mf 58 none 0 0) _ rfl (by exact rfl) (by exact rfl) rfl (by kernel_rfl) hg74 rfl rfl (by kernel_rfl) ?_)
   intro W79 hg80 bs81 hb82
   have z83 := hb82.size
   refine ⟨(Below.trans hS78 hb82), ?_⟩
   have hS84 := (Below.trans hS78 hb82)
   simp only [lay]
   refine wpAnyH_done (by kernel_rfl) ?_ _
   change Code.wp _ _ _ _ _
   refine wp_sr ?_
   refine lv (.agg (h41 d.tos 0 d.ttl s t none 0 0 true d.id d.off d.mf 58 none 0 0)) (by exact xo (hg80.load (P := Try.prog) 36 Try.underlying36 rfl (by kernel_rfl))) ?_
   simp only [lay]
   have l89 : W16.heap.size ≤ g25 := Nat.le_of_eq ge28.symm
   have b90 := hb30.trans (hb35.mono l89)
   have b91 := b90.trans (hb45.mono l89)
   have b92 := bt b91 hb50
   have b93 := bt b92 hb54
   have b94 := b93.trans (hb62.mono l89)
   have b95 := b94.trans (hb70.mono l89)
   have b96 := b95.trans (hb76.mono l89)
   have b97 := b96.trans (hb82.mono l89)
   have has98 := hg17.to b97
   refine lz (ow_st 36 (.tmp 4) (.tmp 34) g15 (h41 d.tos 0 d.ttl s t none 0 0 true d.id d.off d.mf 58 none 0 0) _ _ rfl (by exact rfl) (by exact rfl) has98 (by kernel_rfl) rfl (by kernel_rfl) ?_)
   intro W85 hg86 bs87 hb88
   have z99 := hb88.size
   have has100 := hg80.but6 bs87 (by omega)
   simp only [lay]
   refine wn ?_
   refine wp_ret ?_
   try simp only [Exit.then]
   have e : (head17 d s t []).cells pZ6 = #[.int .u8 d.tos, .int .u32 0, .int .u8 d.ttl, .int .u8 (s.getD 0 0), .int .u8 (s.getD 1 0), .int .u8 (s.getD 2 0), .int .u8 (s.getD 3 0), .int .u8 (s.getD 4 0), .int .u8 (s.getD 5 0), .int .u8 (s.getD 6 0), .int .u8 (s.getD 7 0), .int .u8 (s.getD 8 0), .int .u8 (s.getD 9 0), .int .u8 (s.getD 10 0), .int .u8 (s.getD 11 0), .int .u8 (s.getD 12 0), .int .u8 (s.getD 13 0), .int .u8 (s.getD 14 0), .int .u8 (s.getD 15 0), .int .u8 (t.getD 0 0), .int .u8 (t.getD 1 0), .int .u8 (t.getD 2 0), .int .u8 (t.getD 3 0), .int .u8 (t.getD 4 0), .int .u8 (t.getD 5 0), .int .u8 (t.getD 6 0), .int .u8 (t.getD 7 0), .int .u8 (t.getD 8 0), .int .u8 (t.getD 9 0), .int .u8 (t.getD 10 0), .int .u8 (t.getD 11 0), .int .u8 (t.getD 12 0), .int .u8 (t.getD 13 0), .int .u8 (t.getD 14 0), .int .u8 (t.getD 15 0), .slice none 0 0, .bool true, .int .u32 d.id, .int .i64 d.off, .bool d.mf, .int .u8 58, .slice none 0 0] := by simp only [head17, pro17, *, if_true, if_false, Bool.false_eq_true]; rfl
   have b101 := bt hb6 hb13
   have b102 := bt b101 hb20
   have b103 := bt b102 hb30
   have l104 := lq b102 ge28
   have b105 := b103.trans (hb35.mono l104)
   have b106 := b105.trans (hb45.mono l104)
   have b107 := bt b106 hb50
   have b108 := bt b107 hb54
   have b109 := b108.trans (hb62.mono l104)
   have b110 := b109.trans (hb70.mono l104)
   have b111 := b110.trans (hb76.mono l104)
   have b112 := b111.trans (hb82.mono l104)
   have l113 := lq b101 ge18
   have b114 := b112.trans (hb88.mono l113)
   exact bodyPost_ret (res_cell Try.results38 rfl (hg86.load (P := Try.prog) 36 Try.underlying36 rfl (by kernel_rfl))) rfl ⟨by rw [e], b114⟩
  replace q52 := eq_false_of_ne_true q52
  rw [q52]
  refine wn ?_
  refine wp_cond_false (by exact rfl) ?_
  refine wp_skip ?_
  change Code.wp _ _ _ _ _
  refine wp_sr ?_
  have has115 := hg43.to hb50
  refine lv (.agg (h41 d.tos 0 d.ttl s t none 0 0 false 0 0 false 58 none 0 0)) (by exact xo (has115.load (P := Try.prog) 36 Try.underlying36 rfl (by kernel_rfl))) ?_
  simp only [lay]
  have l120 : W16.heap.size ≤ g25 := Nat.le_of_eq ge28.symm
  have b121 := hb30.trans (hb35.mono l120)
  have b122 := b121.trans (hb45.mono l120)
  have b123 := bt b122 hb50
  have has124 := hg17.to b123
  refine lz (ow_st 36 (.tmp 4) (.tmp 34) g15 (h41 d.tos 0 d.ttl s t none 0 0 false 0 0 false 58 none 0 0) _ _ rfl (by exact rfl) (by exact rfl) has124 (by kernel_rfl) rfl (by kernel_rfl) ?_)
  intro W116 hg117 bs118 hb119
  have z125 := hb119.size
  have has126 := has115.but6 bs118 (by omega)
  simp only [lay]
  refine wn ?_
  refine wp_ret ?_
  try simp only [Exit.then]
  have qm : d.mf = false := by cases h : d.mf <;> simp_all [D4.part]
  have e : (head17 d s t []).cells pZ6 = #[.int .u8 d.tos, .int .u32 0, .int .u8 d.ttl, .int .u8 (s.getD 0 0), .int .u8 (s.getD 1 0), .int .u8 (s.getD 2 0), .int .u8 (s.getD 3 0), .int .u8 (s.getD 4 0), .int .u8 (s.getD 5 0), .int .u8 (s.getD 6 0), .int .u8 (s.getD 7 0), .int .u8 (s.getD 8 0), .int .u8 (s.getD 9 0), .int .u8 (s.getD 10 0), .int .u8 (s.getD 11 0), .int .u8 (s.getD 12 0), .int .u8 (s.getD 13 0), .int .u8 (s.getD 14 0), .int .u8 (s.getD 15 0), .int .u8 (t.getD 0 0), .int .u8 (t.getD 1 0), .int .u8 (t.getD 2 0), .int .u8 (t.getD 3 0), .int .u8 (t.getD 4 0), .int .u8 (t.getD 5 0), .int .u8 (t.getD 6 0), .int .u8 (t.getD 7 0), .int .u8 (t.getD 8 0), .int .u8 (t.getD 9 0), .int .u8 (t.getD 10 0), .int .u8 (t.getD 11 0), .int .u8 (t.getD 12 0), .int .u8 (t.getD 13 0), .int .u8 (t.getD 14 0), .int .u8 (t.getD 15 0), .slice none 0 0, .bool false, .int .u32 0, .int .i64 0, .bool false, .int .u8 58, .slice none 0 0] := by simp only [head17, pro17, *, if_true, if_false, Bool.false_eq_true]; rfl
  have b127 := bt hb6 hb13
  have b128 := bt b127 hb20
  have b129 := bt b128 hb30
  have l130 := lq b128 ge28
  have b131 := b129.trans (hb35.mono l130)
  have b132 := b131.trans (hb45.mono l130)
  have b133 := bt b132 hb50
  have l134 := lq b127 ge18
  have b135 := b133.trans (hb119.mono l134)
  exact bodyPost_ret (res_cell Try.results38 rfl (hg117.load (P := Try.prog) 36 Try.underlying36 rfl (by kernel_rfl))) rfl ⟨by rw [e], b135⟩
 refine lv (.bool false) (by exact yqn) ?_
 simp only [lay]
 refine wn ?_
 refine wp_cond_false (by exact rfl) ?_
 refine wp_skip ?_
 change Code.wp _ _ _ _ _
 refine wp_seq ?_
 refine wp_sr ?_
 refine lv (.agg (d.cells p)) (by exact xo (has40.load (P := Try.prog) 27 Try.underlying27 rfl (by kernel_rfl))) ?_
 simp only [lay]
 refine lz (ow_call (fun v w' => v = .bool d.part ∧ Below W32.heap.size W32 w') (by exact xk Try.func39) (by exact (fragment_any d p W32).mono fun e w' h => ⟨_, h.1, rfl, h.2⟩) ?_)
 rintro _ W136 ⟨rfl, hb137⟩
 have z138 := hb137.size
 simp only [lay]
 by_cases q139 : d.part = true
 case pos =>
  rw [q139]
  refine wn ?_
  refine wp_cond_true (by exact rfl) ?_
  refine rg_drawn g25 (by kernel_rfl) (by omega) ?_
  intro W140 hb141 hs142 hS143
  have z144 := hb141.size
  refine te 0 (.pointer (some ⟨g1, 1, none⟩)) hS143 rfl (by intro _ _; exact xf 1 0 Try.underlying27) ?_
  simp only [lay]
  have b145 := bt b39 hb137
  refine te 1 (.int .u16 d.id) hS143 rfl (by intro _ h; exact xc Try.underlying22 ((hg3.to (b145.trans (Below.mono h l38))).cell 1 rfl)) ?_
  simp only [lay]
  refine te 2 (.int .u32 d.id) hS143 rfl (by intro _ _; exact xv (conv_u32 22 33 .u16 d.id (by kernel_rfl) Try.underlying33 (by omega) (by omega) _)) ?_
  simp only [lay]
  refine te 3 (.pointer (some ⟨g1, 4, none⟩)) hS143 rfl (by intro _ _; exact xf 4 0 Try.underlying27) ?_
  simp only [lay]
  refine te 4 (.int .i64 d.off) hS143 rfl (by intro _ h; exact xc Try.underlying3 ((hg3.to (b145.trans (Below.mono h l38))).cell 4 rfl)) ?_
  simp only [lay]
  refine te 5 (.pointer (some ⟨g1, 3, none⟩)) hS143 rfl (by intro _ _; exact xf 3 0 Try.underlying27) ?_
  simp only [lay]
  refine te 6 (.bool d.mf) hS143 rfl (by intro _ h; exact xc Try.underlying4 ((hg3.to (b145.trans (Below.mono h l38))).cell 3 rfl)) ?_
  simp only [lay]
  refine te 7 (.pointer (some ⟨g25, 36, none⟩)) hS143 rfl (by intro _ _; exact xf 36 0 Try.underlying36) ?_
  simp only [lay]
  have b150 := bt hb137 hb141
  have has151 := hg33.to b150
  refine t1 8 rfl (ow_st1 4 (.tmp 30) (.const (.bool true)) g25 36 (.bool true) _ (h41 d.tos 0 d.ttl s t none 0 0 true 0 0 false d.proto none 0 0) _ rfl (by exact rfl) (by exact rfl) rfl (by kernel_rfl) has151 rfl rfl (by kernel_rfl) ?_)
  intro W146 hg147 bs148 hb149
  have z152 := hb149.size
  refine ⟨(Below.trans hS143 hb149), ?_⟩
  have hS153 := (Below.trans hS143 hb149)
  simp only [lay]
  refine te 9 (.pointer (some ⟨g25, 37, none⟩)) hS153 rfl (by intro _ _; exact xf 37 0 Try.underlying36) ?_
  simp only [lay]
  refine t1 10 rfl (ow_st1 33 (.tmp 31) (.tmp 25) g25 37 (.int .u32 d.id) _ (h41 d.tos 0 d.ttl s t none 0 0 true d.id 0 false d.proto none 0 0) _ rfl (by exact rfl) (by exact rfl) rfl (by kernel_rfl) hg147 rfl rfl (by kernel_rfl) ?_)
  intro W154 hg155 bs156 hb157
  have z158 := hb157.size
  refine ⟨(Below.trans hS153 hb157), ?_⟩
  have hS159 := (Below.trans hS153 hb157)
  simp only [lay]
  refine te 11 (.pointer (some ⟨g25, 38, none⟩)) hS159 rfl (by intro _ _; exact xf 38 0 Try.underlying36) ?_
  simp only [lay]
  refine t1 12 rfl (ow_st1 3 (.tmp 32) (.tmp 27) g25 38 (.int .i64 d.off) _ (h41 d.tos 0 d.ttl s t none 0 0 true d.id d.off false d.proto none 0 0) _ rfl (by exact rfl) (by exact rfl) rfl (by kernel_rfl) hg155 rfl rfl (by kernel_rfl) ?_)
  intro W160 hg161 bs162 hb163
  have z164 := hb163.size
  refine ⟨(Below.trans hS159 hb163), ?_⟩
  have hS165 := (Below.trans hS159 hb163)
  simp only [lay]
  refine te 13 (.pointer (some ⟨g25, 39, none⟩)) hS165 rfl (by intro _ _; exact xf 39 0 Try.underlying36) ?_
  simp only [lay]
  refine t1 14 rfl (ow_st1 4 (.tmp 33) (.tmp 29) g25 39 (.bool d.mf) _ (h41 d.tos 0 d.ttl s t none 0 0 true d.id d.off d.mf d.proto none 0 0) _ rfl (by exact rfl) (by exact rfl) rfl (by kernel_rfl) hg161 rfl rfl (by kernel_rfl) ?_)
  intro W166 hg167 bs168 hb169
  have z170 := hb169.size
  refine ⟨(Below.trans hS165 hb169), ?_⟩
  have hS171 := (Below.trans hS165 hb169)
  simp only [lay]
  refine wpAnyH_done (by kernel_rfl) ?_ _
  change Code.wp _ _ _ _ _
  refine wp_sr ?_
  refine lv (.agg (h41 d.tos 0 d.ttl s t none 0 0 true d.id d.off d.mf d.proto none 0 0)) (by exact xo (hg167.load (P := Try.prog) 36 Try.underlying36 rfl (by kernel_rfl))) ?_
  simp only [lay]
  have l176 : W16.heap.size ≤ g25 := Nat.le_of_eq ge28.symm
  have b177 := hb30.trans (hb35.mono l176)
  have b178 := bt b177 hb137
  have b179 := bt b178 hb141
  have b180 := b179.trans (hb149.mono l176)
  have b181 := b180.trans (hb157.mono l176)
  have b182 := b181.trans (hb163.mono l176)
  have b183 := b182.trans (hb169.mono l176)
  have has184 := hg17.to b183
  refine lz (ow_st 36 (.tmp 4) (.tmp 34) g15 (h41 d.tos 0 d.ttl s t none 0 0 true d.id d.off d.mf d.proto none 0 0) _ _ rfl (by exact rfl) (by exact rfl) has184 (by kernel_rfl) rfl (by kernel_rfl) ?_)
  intro W172 hg173 bs174 hb175
  have z185 := hb175.size
  have has186 := hg167.but6 bs174 (by omega)
  simp only [lay]
  refine wn ?_
  refine wp_ret ?_
  try simp only [Exit.then]
  have e : (head17 d s t []).cells pZ6 = #[.int .u8 d.tos, .int .u32 0, .int .u8 d.ttl, .int .u8 (s.getD 0 0), .int .u8 (s.getD 1 0), .int .u8 (s.getD 2 0), .int .u8 (s.getD 3 0), .int .u8 (s.getD 4 0), .int .u8 (s.getD 5 0), .int .u8 (s.getD 6 0), .int .u8 (s.getD 7 0), .int .u8 (s.getD 8 0), .int .u8 (s.getD 9 0), .int .u8 (s.getD 10 0), .int .u8 (s.getD 11 0), .int .u8 (s.getD 12 0), .int .u8 (s.getD 13 0), .int .u8 (s.getD 14 0), .int .u8 (s.getD 15 0), .int .u8 (t.getD 0 0), .int .u8 (t.getD 1 0), .int .u8 (t.getD 2 0), .int .u8 (t.getD 3 0), .int .u8 (t.getD 4 0), .int .u8 (t.getD 5 0), .int .u8 (t.getD 6 0), .int .u8 (t.getD 7 0), .int .u8 (t.getD 8 0), .int .u8 (t.getD 9 0), .int .u8 (t.getD 10 0), .int .u8 (t.getD 11 0), .int .u8 (t.getD 12 0), .int .u8 (t.getD 13 0), .int .u8 (t.getD 14 0), .int .u8 (t.getD 15 0), .slice none 0 0, .bool true, .int .u32 d.id, .int .i64 d.off, .bool d.mf, .int .u8 d.proto, .slice none 0 0] := by simp only [head17, pro17, *, if_true, if_false, Bool.false_eq_true]; rfl
  have b187 := bt hb6 hb13
  have b188 := bt b187 hb20
  have b189 := bt b188 hb30
  have l190 := lq b188 ge28
  have b191 := b189.trans (hb35.mono l190)
  have b192 := bt b191 hb137
  have b193 := bt b192 hb141
  have b194 := b193.trans (hb149.mono l190)
  have b195 := b194.trans (hb157.mono l190)
  have b196 := b195.trans (hb163.mono l190)
  have b197 := b196.trans (hb169.mono l190)
  have l198 := lq b187 ge18
  have b199 := b197.trans (hb175.mono l198)
  exact bodyPost_ret (res_cell Try.results38 rfl (hg173.load (P := Try.prog) 36 Try.underlying36 rfl (by kernel_rfl))) rfl ⟨by rw [e], b199⟩
 replace q139 := eq_false_of_ne_true q139
 rw [q139]
 refine wn ?_
 refine wp_cond_false (by exact rfl) ?_
 refine wp_skip ?_
 change Code.wp _ _ _ _ _
 refine wp_sr ?_
 have has200 := hg33.to hb137
 refine lv (.agg (h41 d.tos 0 d.ttl s t none 0 0 false 0 0 false d.proto none 0 0)) (by exact xo (has200.load (P := Try.prog) 36 Try.underlying36 rfl (by kernel_rfl))) ?_
 simp only [lay]
 have l205 : W16.heap.size ≤ g25 := Nat.le_of_eq ge28.symm
 have b206 := hb30.trans (hb35.mono l205)
 have b207 := bt b206 hb137
 have has208 := hg17.to b207
 refine lz (ow_st 36 (.tmp 4) (.tmp 34) g15 (h41 d.tos 0 d.ttl s t none 0 0 false 0 0 false d.proto none 0 0) _ _ rfl (by exact rfl) (by exact rfl) has208 (by kernel_rfl) rfl (by kernel_rfl) ?_)
 intro W201 hg202 bs203 hb204
 have z209 := hb204.size
 have has210 := has200.but6 bs203 (by omega)
 simp only [lay]
 refine wn ?_
 refine wp_ret ?_
 try simp only [Exit.then]
 have qm : d.mf = false := by cases h : d.mf <;> simp_all [D4.part]
 have e : (head17 d s t []).cells pZ6 = #[.int .u8 d.tos, .int .u32 0, .int .u8 d.ttl, .int .u8 (s.getD 0 0), .int .u8 (s.getD 1 0), .int .u8 (s.getD 2 0), .int .u8 (s.getD 3 0), .int .u8 (s.getD 4 0), .int .u8 (s.getD 5 0), .int .u8 (s.getD 6 0), .int .u8 (s.getD 7 0), .int .u8 (s.getD 8 0), .int .u8 (s.getD 9 0), .int .u8 (s.getD 10 0), .int .u8 (s.getD 11 0), .int .u8 (s.getD 12 0), .int .u8 (s.getD 13 0), .int .u8 (s.getD 14 0), .int .u8 (s.getD 15 0), .int .u8 (t.getD 0 0), .int .u8 (t.getD 1 0), .int .u8 (t.getD 2 0), .int .u8 (t.getD 3 0), .int .u8 (t.getD 4 0), .int .u8 (t.getD 5 0), .int .u8 (t.getD 6 0), .int .u8 (t.getD 7 0), .int .u8 (t.getD 8 0), .int .u8 (t.getD 9 0), .int .u8 (t.getD 10 0), .int .u8 (t.getD 11 0), .int .u8 (t.getD 12 0), .int .u8 (t.getD 13 0), .int .u8 (t.getD 14 0), .int .u8 (t.getD 15 0), .slice none 0 0, .bool false, .int .u32 0, .int .i64 0, .bool false, .int .u8 d.proto, .slice none 0 0] := by simp only [head17, pro17, *, if_true, if_false, Bool.false_eq_true]; rfl
 have b211 := bt hb6 hb13
 have b212 := bt b211 hb20
 have b213 := bt b212 hb30
 have l214 := lq b212 ge28
 have b215 := b213.trans (hb35.mono l214)
 have b216 := bt b215 hb137
 have l217 := lq b211 ge18
 have b218 := b216.trans (hb204.mono l217)
 exact bodyPost_ret (res_cell Try.results38 rfl (hg202.load (P := Try.prog) 36 Try.underlying36 rfl (by kernel_rfl))) rfl ⟨by rw [e], b218⟩
end Go.Proofs.Ytijnifbpbgckgaa
namespace Go.Proofs.Ytijnifbpbgckgaa
open Go.RowKit Go.Shelf

theorem or_i64_nat (a b : Nat) (ha : a < 2 ^ 63) (hb : b < 2 ^ 63) : bits .or .i64 (a : Int) (b : Int) = ((a ||| b : Nat) : Int) :=
  (bits_nat .i64 63 (by decide) (fun n h0 h1 => IntWalk.i64_in n (by omega)) a b ha hb).2
end Go.Proofs.Ytijnifbpbgckgaa
namespace Go.Proofs.Ytijnifbpbgckgaa
open Go.RowKit Go.Shelf

/-- a reader in block g that is at the k-th of bytes l, which lie below B -/
structure RD (B g : Nat) (t : TypeId) (W0 w : World) (l : List Int) (k : Nat) : Prop where
  st : ∃ A c, Has w g (.cells #[.slice A (l.length - k) c] t (0, 0)) ∧ By B W0 A (l.length - k) c (l.drop k)
  hg : B ≤ g
  bel : Below B W0 w
/-- all blocks but g lie as they lay -/
structure But (g : Nat) (w w' : World) : Prop where
  size : w'.heap.size = w.heap.size
  has : ∀ j o, j ≠ g → Has w j o → Has w' j o
theorem but_setCell (g k : Nat) (w : World) (v : Value) : But g w (w.setCell ⟨g, k, none⟩ v) := ⟨by simp [World.setCell], fun _ _ hj ho => ho.setCell_other hj k v⟩
theorem RD.move {B g : Nat} {t : TypeId} {W0 w w' : World} {l : List Int} {k : Nat} (h : RD B g t W0 w l k) (hh : ∀ o, Has w g o → Has w' g o) (hb : Below B w w') : RD B g t W0 w' l k := by
  obtain ⟨A, c, h1, h2⟩ := h.st
  exact ⟨⟨A, c, hh _ h1, h2⟩, h.hg, h.bel.trans hb⟩

theorem take_any {B g : Nat} {t : TypeId} {W0 w : World} {l : List Int} {k : Nat} (n : Nat) (h : RD B g t W0 w l k) (hk : k + n ≤ l.length) :
    Calls Try.prog 113 #[.pointer (some ⟨g, 0, none⟩), .int .i64 (n : Int)] w fun e w' => ∃ A1 c1, e = .returned (.slice A1 n c1) ∧ By B W0 A1 n c1 ((l.drop k).take n) ∧ RD B g t W0 w' l (k + n) ∧ But g w w' := by
  obtain ⟨A, c, hH, hy⟩ := h.st
  have hc := hH.cell 0 (v := .slice A (l.length - k) c) rfl
  have hf := hH.free 0
  obtain ⟨r1, y1⟩ := hy.to_ (P := Try.prog) 25 Try.underlying25 (by kernel_rfl) (k := n) (by omega)
  obtain ⟨A2, c2, r2, y2⟩ := hy.from_ (P := Try.prog) 25 Try.underlying25 (by kernel_rfl) (k := n) (by omega)
  have hk2 := Lib.hid hk
  clear hk
  go_enter Try.func113, Try.ntmps113
  go_wp2
  go_ret
  have hbs : Below B w (w.setCell ⟨g, 0, none⟩ (.slice A2 (l.length - k - n) c2)) := below_setCell (Below.refl _ _) h.hg 0 _
  refine ⟨A, c, rfl, y1, ⟨⟨A2, c2, ?_, ?_⟩, h.hg, h.bel.trans hbs⟩, but_setCell _ _ _ _⟩
  · have := hH.setCell 0 (.slice A2 (l.length - k - n) c2)
    rw [← Nat.sub_sub]
    exact this
  · rw [← Nat.sub_sub, ← List.drop_drop]
    exact y2
theorem take1_any {B g : Nat} {t : TypeId} {W0 w : World} {l : List Int} {k : Nat} (h : RD B g t W0 w l k) (hk : k < l.length) :
    Calls Try.prog 113 #[.pointer (some ⟨g, 0, none⟩), .int .i64 1] w fun e w' => ∃ b off c1, e = .returned (.slice (some ⟨b, off, none⟩) 1 c1) ∧ b < B ∧ W0.cell? ⟨b, off, none⟩ = some (.int .u8 (l.getD k 0)) ∧ RD B g t W0 w' l (k + 1) ∧ But g w w' :=
  (take_any 1 h hk).mono fun e w' ⟨A1, c1, he, hy, hr, hb⟩ => by
    obtain ⟨b, off, x, rfl, hlt, hx, hcell, _⟩ := hy.get (k := 0) (by decide)
    refine ⟨b, off, c1, he, hlt, ?_, hr, hb⟩
    have : l.getD k 0 = x := by
      rw [List.getElem?_take, if_pos (by decide), List.getElem?_drop] at hx
      simpa [List.getD] using congrArg (·.getD 0) hx
    rw [this]
    exact hcell
theorem or8_i64 {a b : Int} (ha : 0 ≤ a ∧ a ≤ 255) (hb : 0 ≤ b ∧ b ≤ 255) : bits .or .i64 (a * 256) b = a * 256 + b := by
  have e1 : a * 256 = ((a * 256).toNat : Int) := by omega
  have e2 : b = (b.toNat : Int) := by omega
  rw [e1, e2, or_i64_nat _ _ (by omega) (by omega), nat_join 8 _ _ (by omega) (by omega)]
  omega
theorem ptwo_any {B g : Nat} {t : TypeId} {W0 w : World} {l : List Int} {k : Nat} (h : RD B g t W0 w l k) (hk : k + 2 ≤ l.length) (hl : InB l) :
    Calls Try.prog 114 #[.pointer (some ⟨g, 0, none⟩)] w fun e w' => ∃ q : Int, e = .returned (.int .i64 q) ∧ Hid (q = l.getD k 0 * 256 + l.getD (k + 1) 0) ∧ RD B g t W0 w' l (k + 2) ∧ But g w w' := by
  have hc := Lib.hid (take_any 2 h hk)
  have g0 := getD_rng4 hl k
  have g1 := getD_rng4 hl (k + 1)
  have hor := or8_i64 g0 g1
  have hkH := Lib.hid hk
  clear hk
  go_enter Try.func114, Try.ntmps114
  go_wp2_with fail
  refine hc.out.mono ?_
  rintro e w1 ⟨A1, c1, rfl, y1, hr, hb⟩
  clear hc
  obtain ⟨b, off, x0, hA, hb0, e0, k0, s0⟩ := y1.get (k := 0) (by omega)
  obtain ⟨b', off', x1, hA', hb1, e1, k1, s1⟩ := y1.get (k := 1) (by omega)
  subst hA
  injection hA' with hA'
  injection hA' with q1 q2
  subst q1 q2
  have z0 : l.getD k 0 = x0 := by
    rw [List.getElem?_take, if_pos (by decide), List.getElem?_drop] at e0
    simpa [List.getD] using congrArg (·.getD 0) e0
  have z1 : l.getD (k + 1) 0 = x1 := by
    rw [List.getElem?_take, if_pos (by decide), List.getElem?_drop] at e1
    simpa [List.getD] using congrArg (·.getD 0) e1
  simp only [z0, z1] at hor g0 g1
  have z0H := Lib.hid z0
  have z1H := Lib.hid z1
  have k0 : w1.cell? ⟨b, off, none⟩ = some (.int .u8 x0) := (hr.bel.cell (p := ⟨b, off + 0, none⟩) hb0).trans k0
  have k1 := (hr.bel.cell (p := ⟨b, off + 1, none⟩) hb0).trans k1
  clear e0 e1 z0 z1 y1 s0 s1 hb1
  go_wp2
  go_quiet (fail)
  go_wp2
  go_ret
  exact ⟨_, rfl, Lib.hid (by rw [z0H.out, z1H.out]), hr.move (fun _ h => h.drewN) (below_drewN _ _ _), ⟨hb.size, fun j o hj ho => (hb.has j o hj ho).drewN⟩⟩
end Go.Proofs.Ytijnifbpbgckgaa
