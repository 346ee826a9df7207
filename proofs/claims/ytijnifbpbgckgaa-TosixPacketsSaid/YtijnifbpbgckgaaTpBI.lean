/-
  Lemmas and walks for the row of TosixPackets (part 35 of 45).
-/
import Derived.Test.YtijnifbpbgckgaaTpAF
import Derived.Test.YtijnifbpbgckgaaTpBH
set_option linter.unusedVariables false
set_option linter.unusedSimpArgs false
namespace Go.Proofs.Ytijnifbpbgckgaa
open Go.RowKit Go.Shelf
attribute [local irreducible] wpList Code.wp Oper.wp wpOp wpAnyH

set_option maxRecDepth 100000 in
theorem rheader_any (d : D4) (hd : d.ok) (p : W4) (s t bl : List Int) (A : Option Addr) (c : Nat) (w : World) :
  Calls Try.prog 48 #[.agg (d.cells p), .agg (ends6 s t), .slice A bl.length c] w fun e w' => e = .returned (.agg ((head17 d s t bl).cells (pB6 A c))) ∧ Below w.heap.size w w' := by
 have r1 := hd.id
 go_enter Try.func48, Try.ntmps48
 refine wp_sr ?_
 refine lz (ow_box 27 (.tmp 0) _ rfl rfl ?_)
 intro g1 W2 hg3 ge4 sz5 hb6
 have z7 := hb6.size
 simp only [lay]
 refine lz (ow_box 31 (.tmp 1) _ rfl rfl ?_)
 intro g8 W9 hg10 ge11 sz12 hb13
 have z14 := hb13.size
 simp only [lay]
 refine lz (oa #[.int .u8 0, .int .u32 0, .int .u8 0, .int .u8 0, .int .u8 0, .int .u8 0, .int .u8 0, .int .u8 0, .int .u8 0, .int .u8 0, .int .u8 0, .int .u8 0, .int .u8 0, .int .u8 0, .int .u8 0, .int .u8 0, .int .u8 0, .int .u8 0, .int .u8 0, .int .u8 0, .int .u8 0, .int .u8 0, .int .u8 0, .int .u8 0, .int .u8 0, .int .u8 0, .int .u8 0, .int .u8 0, .int .u8 0, .int .u8 0, .int .u8 0, .int .u8 0, .int .u8 0, .int .u8 0, .int .u8 0, .slice none 0 0, .bool false, .int .u32 0, .int .i64 0, .bool false, .int .u8 0, .slice none 0 0] ?_)
 intro g15 W16 hg17 ge18 sz19 hb20
 have z21 := hb20.size
 simp only [lay]
 refine wn ?_
 refine wp_sr ?_
 refine lv (.pointer (some ⟨g1, 0, none⟩)) (by exact xf 0 0 Try.underlying27) ?_
 simp only [lay]
 have b22 := bt hb13 hb20
 have has23 := hg3.to b22
 refine lv (.int .u8 d.tos) (by exact xc Try.underlying5 (has23.cell 0 rfl)) ?_
 simp only [lay]
 refine lv (.pointer (some ⟨g1, 5, none⟩)) (by exact xf 5 0 Try.underlying27) ?_
 simp only [lay]
 refine lv (.int .u8 d.ttl) (by exact xc Try.underlying5 (has23.cell 5 rfl)) ?_
 simp only [lay]
 refine lv (.pointer (some ⟨g8, 0, none⟩)) (by exact xf 0 15 Try.underlying31) ?_
 simp only [lay]
 have has24 := hg10.to hb20
 refine lv (.agg (a16 s)) (by exact ex_loadAt (by exact rfl) (by exact rfl) (has24.loadIn (P := Try.prog) 0 (w16 s) (by kernel_rfl) 29 Try.underlying29 rfl (by kernel_rfl))) ?_
 simp only [lay]
 refine lv (.pointer (some ⟨g8, 16, none⟩)) (by exact xf 16 15 Try.underlying31) ?_
 simp only [lay]
 refine lv (.agg (a16 t)) (by exact ex_loadAt (by exact rfl) (by exact rfl) (has24.loadIn (P := Try.prog) 16 (w16 t) (by kernel_rfl) 29 Try.underlying29 rfl (by kernel_rfl))) ?_
 simp only [lay]
 refine lv (.pointer (some ⟨g1, 6, none⟩)) (by exact xf 6 0 Try.underlying27) ?_
 simp only [lay]
 refine lv (.int .u8 d.proto) (by exact xc Try.underlying5 (has23.cell 6 rfl)) ?_
 simp only [lay]
 refine lv (.slice A bl.length c) (by exact xm) ?_
 simp only [lay]
 refine lv (.agg (h41 d.tos 0 d.ttl s t none 0 0 false 0 0 false d.proto A bl.length c)) (by kernel_rfl) ?_
 simp only [lay]
 refine lz (oa #[.int .u8 0, .int .u32 0, .int .u8 0, .int .u8 0, .int .u8 0, .int .u8 0, .int .u8 0, .int .u8 0, .int .u8 0, .int .u8 0, .int .u8 0, .int .u8 0, .int .u8 0, .int .u8 0, .int .u8 0, .int .u8 0, .int .u8 0, .int .u8 0, .int .u8 0, .int .u8 0, .int .u8 0, .int .u8 0, .int .u8 0, .int .u8 0, .int .u8 0, .int .u8 0, .int .u8 0, .int .u8 0, .int .u8 0, .int .u8 0, .int .u8 0, .int .u8 0, .int .u8 0, .int .u8 0, .int .u8 0, .slice none 0 0, .bool false, .int .u32 0, .int .i64 0, .bool false, .int .u8 0, .slice none 0 0] ?_)
 intro g25 W26 hg27 ge28 sz29 hb30
 have z31 := hb30.size
 simp only [lay]
 refine lz (ow_st 36 (.tmp 7) (.tmp 19) g25 (h41 d.tos 0 d.ttl s t none 0 0 false 0 0 false d.proto A bl.length c) _ _ rfl (by exact rfl) (by exact rfl) hg27 (by kernel_rfl) rfl (by kernel_rfl) ?_)
 intro W32 hg33 bs34 hb35
 have z36 := hb35.size
 simp only [lay]
 refine wn ?_
 refine wp_seq ?_
 refine wp_sr ?_
 refine lv (.pointer (some ⟨g1, 6, none⟩)) (by exact xf 6 0 Try.underlying27) ?_
 simp only [lay]
 have b37 := bt b22 hb30
 have l38 := lq b22 ge28
 have b39 := b37.trans (hb35.mono l38)
 have has40 := hg3.to b39
 refine lv (.int .u8 d.proto) (by exact xc Try.underlying5 (has40.cell 6 rfl)) ?_
 simp only [lay]
 by_cases q41 : d.proto = 1
 case pos =>
  refine lv (.bool true) (by exact yq) ?_
  simp only [lay]
  refine wn ?_
  refine cT9 ?_
  refine wp_region_lit ?_
  refine lv (.pointer (some ⟨g25, 40, none⟩)) (by exact xf 40 0 Try.underlying36) ?_
  simp only [lay]
  refine lz (ow_st1 5 (.tmp 23) (.const (.int .u8 58)) g25 40 (.int .u8 58) _ (h41 d.tos 0 d.ttl s t none 0 0 false 0 0 false 58 A bl.length c) _ rfl (by exact rfl) (by exact rfl) rfl (by kernel_rfl) hg33 rfl rfl (by kernel_rfl) ?_)
  intro W42 hg43 bs44 hb45
  have z46 := hb45.size
  simp only [lay]
  refine wn ?_
  refine wp_seq ?_
  refine wp_sr ?_
  refine lv (.pointer (some ⟨g1, 3, none⟩)) (by exact xf 3 0 Try.underlying27) ?_
  simp only [lay]
  have b47 := b39.trans (hb45.mono l38)
  have has48 := hg3.to b47
  refine lv (.bool d.mf) (by exact xc Try.underlying4 (has48.cell 3 rfl)) ?_
  simp only [lay]
  refine lv (.bool d.mf) (by exact xm) ?_
  simp only [lay]
  by_cases q49 : d.mf = true
  case pos =>
   rw [q49]
   refine lzn ?_
   simp only [lay]
   refine lzn ?_
   simp only [lay]
   refine lzn ?_
   simp only [lay]
   refine lv (.bool true) (by exact xp (b := true)) ?_
   simp only [lay]
   refine wn ?_
   refine cT9 ?_
   refine rg_drawn g25 (by kernel_rfl) (by omega) ?_
   intro W50 hb51 hs52 hS53
   have z54 := hb51.size
   refine te 0 (.pointer (some ⟨g1, 1, none⟩)) hS53 rfl (by intro _ _; exact xf 1 0 Try.underlying27) ?_
   simp only [lay]
   refine te 1 (.int .u16 d.id) hS53 rfl (by intro _ h; exact xc Try.underlying22 ((hg3.to (b47.trans (Below.mono h l38))).cell 1 rfl)) ?_
   simp only [lay]
   refine te 2 (.int .u32 d.id) hS53 rfl (by intro _ _; exact xv (conv_u32 22 33 .u16 d.id (by kernel_rfl) Try.underlying33 (by omega) (by omega) _)) ?_
   simp only [lay]
   refine te 3 (.pointer (some ⟨g1, 4, none⟩)) hS53 rfl (by intro _ _; exact xf 4 0 Try.underlying27) ?_
   simp only [lay]
   refine te 4 (.int .i64 d.off) hS53 rfl (by intro _ h; exact xc Try.underlying3 ((hg3.to (b47.trans (Below.mono h l38))).cell 4 rfl)) ?_
   simp only [lay]
   refine te 5 (.pointer (some ⟨g1, 3, none⟩)) hS53 rfl (by intro _ _; exact xf 3 0 Try.underlying27) ?_
   simp only [lay]
   refine te 6 (.bool d.mf) hS53 rfl (by intro _ h; exact xc Try.underlying4 ((hg3.to (b47.trans (Below.mono h l38))).cell 3 rfl)) ?_
   simp only [lay]
   refine te 7 (.pointer (some ⟨g25, 36, none⟩)) hS53 rfl (by intro _ _; exact xf 36 0 Try.underlying36) ?_
   simp only [lay]
   have has59 := hg43.to hb51
   refine t1 8 rfl (ow_st1 4 (.tmp 38) (.const (.bool true)) g25 36 (.bool true) _ (h41 d.tos 0 d.ttl s t none 0 0 true 0 0 false 58 A bl.length c) _ rfl (by exact rfl) (by exact rfl) rfl (by kernel_rfl) has59 rfl rfl (by kernel_rfl) ?_)
   intro W55 hg56 bs57 hb58
   have z60 := hb58.size
   refine ⟨(Below.trans hS53 hb58), ?_⟩
   have hS61 := (Below.trans hS53 hb58)
   simp only [lay]
   refine te 9 (.pointer (some ⟨g25, 37, none⟩)) hS61 rfl (by intro _ _; exact xf 37 0 Try.underlying36) ?_
   simp only [lay]
   refine t1 10 rfl (ow_st1 33 (.tmp 39) (.tmp 33) g25 37 (.int .u32 d.id) _ (h41 d.tos 0 d.ttl s t none 0 0 true d.id 0 false 58 A bl.length c) _ rfl (by exact rfl) (by exact rfl) rfl (by kernel_rfl) hg56 rfl rfl (by kernel_rfl) ?_)
   intro W62 hg63 bs64 hb65
   have z66 := hb65.size
   refine ⟨(Below.trans hS61 hb65), ?_⟩
   have hS67 := (Below.trans hS61 hb65)
   simp only [lay]
   refine te 11 (.pointer (some ⟨g25, 38, none⟩)) hS67 rfl (by intro _ _; exact xf 38 0 Try.underlying36) ?_
   simp only [lay]
   refine t1 12 rfl (ow_st1 3 (.tmp 40) (.tmp 35) g25 38 (.int .i64 d.off) _ (h41 d.tos 0 d.ttl s t none 0 0 true d.id d.off false 58 A bl.length c) _ rfl (by exact rfl) (by exact rfl) rfl (by kernel_rfl) hg63 rfl rfl (by kernel_rfl) ?_)
   intro W68 hg69 bs70 hb71
   have z72 := hb71.size
   refine ⟨(Below.trans hS67 hb71), ?_⟩
   have hS73 := (Below.trans hS67 hb71)
   simp only [lay]
   refine te 13 (.pointer (some ⟨g25, 39, none⟩)) hS73 rfl (by intro _ _; exact xf 39 0 Try.underlying36) ?_
   simp only [lay]
   refine t1 14 rfl (ow_st1 4 (.tmp 41) (.tmp 37) g25 39 (.bool d.mf) _ (h41 d.tos 0 d.ttl s t none 0 0 true d.id d.off d.mf 58 A bl.length c) _ rfl (by exact rfl) (by exact rfl) rfl (by kernel_rfl) hg69 rfl rfl (by kernel_rfl) ?_)
   intro W74 hg75 bs76 hb77
   have z78 := hb77.size
   refine ⟨(Below.trans hS73 hb77), ?_⟩
   have hS79 := (Below.trans hS73 hb77)
   simp only [lay]
   refine wpAnyH_done (by kernel_rfl) ?_ _
   change Code.wp _ _ _ _ _
   refine wp_sr ?_
   refine lv (.agg (h41 d.tos 0 d.ttl s t none 0 0 true d.id d.off d.mf 58 A bl.length c)) (by exact xo (hg75.load (P := Try.prog) 36 Try.underlying36 rfl (by kernel_rfl))) ?_
   simp only [lay]
   have l84 : W16.heap.size ≤ g25 := Nat.le_of_eq ge28.symm
   have b85 := hb30.trans (hb35.mono l84)
   have b86 := b85.trans (hb45.mono l84)
   have b87 := bt b86 hb51
   have b88 := b87.trans (hb58.mono l84)
   have b89 := b88.trans (hb65.mono l84)
   have b90 := b89.trans (hb71.mono l84)
   have b91 := b90.trans (hb77.mono l84)
   have has92 := hg17.to b91
   refine lz (ow_st 36 (.tmp 6) (.tmp 42) g15 (h41 d.tos 0 d.ttl s t none 0 0 true d.id d.off d.mf 58 A bl.length c) _ _ rfl (by exact rfl) (by exact rfl) has92 (by kernel_rfl) rfl (by kernel_rfl) ?_)
   intro W80 hg81 bs82 hb83
   have z93 := hb83.size
   have has94 := hg75.but6 bs82 (by omega)
   simp only [lay]
   refine wn ?_
   refine wp_ret ?_
   try simp only [Exit.then]
   have qp : d.part = true := by unfold D4.part; simp [*]; try omega
   have e : (head17 d s t bl).cells (pB6 A c) = #[.int .u8 d.tos, .int .u32 0, .int .u8 d.ttl, .int .u8 (s.getD 0 0), .int .u8 (s.getD 1 0), .int .u8 (s.getD 2 0), .int .u8 (s.getD 3 0), .int .u8 (s.getD 4 0), .int .u8 (s.getD 5 0), .int .u8 (s.getD 6 0), .int .u8 (s.getD 7 0), .int .u8 (s.getD 8 0), .int .u8 (s.getD 9 0), .int .u8 (s.getD 10 0), .int .u8 (s.getD 11 0), .int .u8 (s.getD 12 0), .int .u8 (s.getD 13 0), .int .u8 (s.getD 14 0), .int .u8 (s.getD 15 0), .int .u8 (t.getD 0 0), .int .u8 (t.getD 1 0), .int .u8 (t.getD 2 0), .int .u8 (t.getD 3 0), .int .u8 (t.getD 4 0), .int .u8 (t.getD 5 0), .int .u8 (t.getD 6 0), .int .u8 (t.getD 7 0), .int .u8 (t.getD 8 0), .int .u8 (t.getD 9 0), .int .u8 (t.getD 10 0), .int .u8 (t.getD 11 0), .int .u8 (t.getD 12 0), .int .u8 (t.getD 13 0), .int .u8 (t.getD 14 0), .int .u8 (t.getD 15 0), .slice none 0 0, .bool true, .int .u32 d.id, .int .i64 d.off, .bool d.mf, .int .u8 58, .slice A bl.length c] := by simp only [head17, pro17, *, if_true, if_false, Bool.false_eq_true]; rfl
   have b95 := bt hb6 hb13
   have b96 := bt b95 hb20
   have b97 := bt b96 hb30
   have l98 := lq b96 ge28
   have b99 := b97.trans (hb35.mono l98)
   have b100 := b99.trans (hb45.mono l98)
   have b101 := bt b100 hb51
   have b102 := b101.trans (hb58.mono l98)
   have b103 := b102.trans (hb65.mono l98)
   have b104 := b103.trans (hb71.mono l98)
   have b105 := b104.trans (hb77.mono l98)
   have l106 := lq b95 ge18
   have b107 := b105.trans (hb83.mono l106)
   exact bodyPost_ret (res_cell Try.results48 rfl (hg81.load (P := Try.prog) 36 Try.underlying36 rfl (by kernel_rfl))) rfl ⟨by rw [e], b107⟩
  replace q49 := eq_false_of_ne_true q49
  rw [q49]
  refine lv (.pointer (some ⟨g1, 4, none⟩)) (by exact xf 4 0 Try.underlying27) ?_
  simp only [lay]
  refine lv (.int .i64 d.off) (by exact xc Try.underlying3 (has48.cell 4 rfl)) ?_
  simp only [lay]
  by_cases q108 : d.off > 0
  case pos =>
   refine lv (.bool true) (by exact ex_gtr (by exact rfl) (by exact rfl) (by exact rfl) (decide_eq_true (by first | assumption | omega | decide))) ?_
   simp only [lay]
   refine lv (.bool true) (by exact xp (b := false)) ?_
   simp only [lay]
   refine wn ?_
   refine cT9 ?_
   refine rg_drawn g25 (by kernel_rfl) (by omega) ?_
   intro W109 hb110 hs111 hS112
   have z113 := hb110.size
   refine te 0 (.pointer (some ⟨g1, 1, none⟩)) hS112 rfl (by intro _ _; exact xf 1 0 Try.underlying27) ?_
   simp only [lay]
   refine te 1 (.int .u16 d.id) hS112 rfl (by intro _ h; exact xc Try.underlying22 ((hg3.to (b47.trans (Below.mono h l38))).cell 1 rfl)) ?_
   simp only [lay]
   refine te 2 (.int .u32 d.id) hS112 rfl (by intro _ _; exact xv (conv_u32 22 33 .u16 d.id (by kernel_rfl) Try.underlying33 (by omega) (by omega) _)) ?_
   simp only [lay]
   refine te 3 (.pointer (some ⟨g1, 4, none⟩)) hS112 rfl (by intro _ _; exact xf 4 0 Try.underlying27) ?_
   simp only [lay]
   refine te 4 (.int .i64 d.off) hS112 rfl (by intro _ h; exact xc Try.underlying3 ((hg3.to (b47.trans (Below.mono h l38))).cell 4 rfl)) ?_
   simp only [lay]
   refine te 5 (.pointer (some ⟨g1, 3, none⟩)) hS112 rfl (by intro _ _; exact xf 3 0 Try.underlying27) ?_
   simp only [lay]
   refine te 6 (.bool d.mf) hS112 rfl (by intro _ h; exact xc Try.underlying4 ((hg3.to (b47.trans (Below.mono h l38))).cell 3 rfl)) ?_
   simp only [lay]
   refine te 7 (.pointer (some ⟨g25, 36, none⟩)) hS112 rfl (by intro _ _; exact xf 36 0 Try.underlying36) ?_
   simp only [lay]
   have has118 := hg43.to hb110
   refine t1 8 rfl (ow_st1 4 (.tmp 38) (.const (.bool true)) g25 36 (.bool true) _ (h41 d.tos 0 d.ttl s t none 0 0 true 0 0 false 58 A bl.length c) _ rfl (by exact rfl) (by exact rfl) rfl (by kernel_rfl) has118 rfl rfl (by kernel_rfl) ?_)
   intro W114 hg115 bs116 hb117
   have z119 := hb117.size
   refine ⟨(Below.trans hS112 hb117), ?_⟩
   have hS120 := (Below.trans hS112 hb117)
   simp only [lay]
   refine te 9 (.pointer (some ⟨g25, 37, none⟩)) hS120 rfl (by intro _ _; exact xf 37 0 Try.underlying36) ?_
   simp only [lay]
   refine t1 10 rfl (ow_st1 33 (.tmp 39) (.tmp 33) g25 37 (.int .u32 d.id) _ (h41 d.tos 0 d.ttl s t none 0 0 true d.id 0 false 58 A bl.length c) _ rfl (by exact rfl) (by exact rfl) rfl (by kernel_rfl) hg115 rfl rfl (by kernel_rfl) ?_)
   intro W121 hg122 bs123 hb124
   have z125 := hb124.size
   refine ⟨(Below.trans hS120 hb124), ?_⟩
   have hS126 := (Below.trans hS120 hb124)
   simp only [lay]
   refine te 11 (.pointer (some ⟨g25, 38, none⟩)) hS126 rfl (by intro _ _; exact xf 38 0 Try.underlying36) ?_
   simp only [lay]
   refine t1 12 rfl (ow_st1 3 (.tmp 40) (.tmp 35) g25 38 (.int .i64 d.off) _ (h41 d.tos 0 d.ttl s t none 0 0 true d.id d.off false 58 A bl.length c) _ rfl (by exact rfl) (by exact rfl) rfl (by kernel_rfl) hg122 rfl rfl (by kernel_rfl) ?_)
   intro W127 hg128 bs129 hb130
   have z131 := hb130.size
   refine ⟨(Below.trans hS126 hb130), ?_⟩
   have hS132 := (Below.trans hS126 hb130)
   simp only [lay]
   refine te 13 (.pointer (some ⟨g25, 39, none⟩)) hS132 rfl (by intro _ _; exact xf 39 0 Try.underlying36) ?_
   simp only [lay]
   refine t1 14 rfl (ow_st1 4 (.tmp 41) (.tmp 37) g25 39 (.bool d.mf) _ (h41 d.tos 0 d.ttl s t none 0 0 true d.id d.off d.mf 58 A bl.length c) _ rfl (by exact rfl) (by exact rfl) rfl (by kernel_rfl) hg128 rfl rfl (by kernel_rfl) ?_)
   intro W133 hg134 bs135 hb136
   have z137 := hb136.size
   refine ⟨(Below.trans hS132 hb136), ?_⟩
   have hS138 := (Below.trans hS132 hb136)
   simp only [lay]
   refine wpAnyH_done (by kernel_rfl) ?_ _
   change Code.wp _ _ _ _ _
   refine wp_sr ?_
   refine lv (.agg (h41 d.tos 0 d.ttl s t none 0 0 true d.id d.off d.mf 58 A bl.length c)) (by exact xo (hg134.load (P := Try.prog) 36 Try.underlying36 rfl (by kernel_rfl))) ?_
   simp only [lay]
   have l143 : W16.heap.size ≤ g25 := Nat.le_of_eq ge28.symm
   have b144 := hb30.trans (hb35.mono l143)
   have b145 := b144.trans (hb45.mono l143)
   have b146 := bt b145 hb110
   have b147 := b146.trans (hb117.mono l143)
   have b148 := b147.trans (hb124.mono l143)
   have b149 := b148.trans (hb130.mono l143)
   have b150 := b149.trans (hb136.mono l143)
   have has151 := hg17.to b150
   refine lz (ow_st 36 (.tmp 6) (.tmp 42) g15 (h41 d.tos 0 d.ttl s t none 0 0 true d.id d.off d.mf 58 A bl.length c) _ _ rfl (by exact rfl) (by exact rfl) has151 (by kernel_rfl) rfl (by kernel_rfl) ?_)
   intro W139 hg140 bs141 hb142
   have z152 := hb142.size
   have has153 := hg134.but6 bs141 (by omega)
   simp only [lay]
   refine wn ?_
   refine wp_ret ?_
   try simp only [Exit.then]
   have qp : d.part = true := by unfold D4.part; simp [*]; try omega
   have e : (head17 d s t bl).cells (pB6 A c) = #[.int .u8 d.tos, .int .u32 0, .int .u8 d.ttl, .int .u8 (s.getD 0 0), .int .u8 (s.getD 1 0), .int .u8 (s.getD 2 0), .int .u8 (s.getD 3 0), .int .u8 (s.getD 4 0), .int .u8 (s.getD 5 0), .int .u8 (s.getD 6 0), .int .u8 (s.getD 7 0), .int .u8 (s.getD 8 0), .int .u8 (s.getD 9 0), .int .u8 (s.getD 10 0), .int .u8 (s.getD 11 0), .int .u8 (s.getD 12 0), .int .u8 (s.getD 13 0), .int .u8 (s.getD 14 0), .int .u8 (s.getD 15 0), .int .u8 (t.getD 0 0), .int .u8 (t.getD 1 0), .int .u8 (t.getD 2 0), .int .u8 (t.getD 3 0), .int .u8 (t.getD 4 0), .int .u8 (t.getD 5 0), .int .u8 (t.getD 6 0), .int .u8 (t.getD 7 0), .int .u8 (t.getD 8 0), .int .u8 (t.getD 9 0), .int .u8 (t.getD 10 0), .int .u8 (t.getD 11 0), .int .u8 (t.getD 12 0), .int .u8 (t.getD 13 0), .int .u8 (t.getD 14 0), .int .u8 (t.getD 15 0), .slice none 0 0, .bool true, .int .u32 d.id, .int .i64 d.off, .bool d.mf, .int .u8 58, .slice A bl.length c] := by simp only [head17, pro17, *, if_true, if_false, Bool.false_eq_true]; rfl
   have b154 := bt hb6 hb13
   have b155 := bt b154 hb20
   have b156 := bt b155 hb30
   have l157 := lq b155 ge28
   have b158 := b156.trans (hb35.mono l157)
   have b159 := b158.trans (hb45.mono l157)
   have b160 := bt b159 hb110
   have b161 := b160.trans (hb117.mono l157)
   have b162 := b161.trans (hb124.mono l157)
   have b163 := b162.trans (hb130.mono l157)
   have b164 := b163.trans (hb136.mono l157)
   have l165 := lq b154 ge18
   have b166 := b164.trans (hb142.mono l165)
   exact bodyPost_ret (res_cell Try.results48 rfl (hg140.load (P := Try.prog) 36 Try.underlying36 rfl (by kernel_rfl))) rfl ⟨by rw [e], b166⟩
  refine lv (.bool false) (by exact ex_gtr (by exact rfl) (by exact rfl) (by exact rfl) (decide_eq_false (by first | assumption | omega | decide))) ?_
  simp only [lay]
  refine lv (.bool false) (by exact xp (b := false)) ?_
  simp only [lay]
  refine wn ?_
  refine cF9 ?_
  refine wp_skip ?_
  change Code.wp _ _ _ _ _
  refine wp_sr ?_
  refine lv (.agg (h41 d.tos 0 d.ttl s t none 0 0 false 0 0 false 58 A bl.length c)) (by exact xo (hg43.load (P := Try.prog) 36 Try.underlying36 rfl (by kernel_rfl))) ?_
  simp only [lay]
  have l171 : W16.heap.size ≤ g25 := Nat.le_of_eq ge28.symm
  have b172 := hb30.trans (hb35.mono l171)
  have b173 := b172.trans (hb45.mono l171)
  have has174 := hg17.to b173
  refine lz (ow_st 36 (.tmp 6) (.tmp 42) g15 (h41 d.tos 0 d.ttl s t none 0 0 false 0 0 false 58 A bl.length c) _ _ rfl (by exact rfl) (by exact rfl) has174 (by kernel_rfl) rfl (by kernel_rfl) ?_)
  intro W167 hg168 bs169 hb170
  have z175 := hb170.size
  have has176 := hg43.but6 bs169 (by omega)
  simp only [lay]
  refine wn ?_
  refine wp_ret ?_
  try simp only [Exit.then]
  have qp : d.part = false := by unfold D4.part; simp [*]; try omega
  have e : (head17 d s t bl).cells (pB6 A c) = #[.int .u8 d.tos, .int .u32 0, .int .u8 d.ttl, .int .u8 (s.getD 0 0), .int .u8 (s.getD 1 0), .int .u8 (s.getD 2 0), .int .u8 (s.getD 3 0), .int .u8 (s.getD 4 0), .int .u8 (s.getD 5 0), .int .u8 (s.getD 6 0), .int .u8 (s.getD 7 0), .int .u8 (s.getD 8 0), .int .u8 (s.getD 9 0), .int .u8 (s.getD 10 0), .int .u8 (s.getD 11 0), .int .u8 (s.getD 12 0), .int .u8 (s.getD 13 0), .int .u8 (s.getD 14 0), .int .u8 (s.getD 15 0), .int .u8 (t.getD 0 0), .int .u8 (t.getD 1 0), .int .u8 (t.getD 2 0), .int .u8 (t.getD 3 0), .int .u8 (t.getD 4 0), .int .u8 (t.getD 5 0), .int .u8 (t.getD 6 0), .int .u8 (t.getD 7 0), .int .u8 (t.getD 8 0), .int .u8 (t.getD 9 0), .int .u8 (t.getD 10 0), .int .u8 (t.getD 11 0), .int .u8 (t.getD 12 0), .int .u8 (t.getD 13 0), .int .u8 (t.getD 14 0), .int .u8 (t.getD 15 0), .slice none 0 0, .bool false, .int .u32 0, .int .i64 0, .bool false, .int .u8 58, .slice A bl.length c] := by simp only [head17, pro17, *, if_true, if_false, Bool.false_eq_true]; rfl
  have b177 := bt hb6 hb13
  have b178 := bt b177 hb20
  have b179 := bt b178 hb30
  have l180 := lq b178 ge28
  have b181 := b179.trans (hb35.mono l180)
  have b182 := b181.trans (hb45.mono l180)
  have l183 := lq b177 ge18
  have b184 := b182.trans (hb170.mono l183)
  exact bodyPost_ret (res_cell Try.results48 rfl (hg168.load (P := Try.prog) 36 Try.underlying36 rfl (by kernel_rfl))) rfl ⟨by rw [e], b184⟩
 refine lv (.bool false) (by exact yqn) ?_
 simp only [lay]
 refine wn ?_
 refine cF9 ?_
 refine wp_skip ?_
 change Code.wp _ _ _ _ _
 refine wp_seq ?_
 refine wp_sr ?_
 refine lv (.pointer (some ⟨g1, 3, none⟩)) (by exact xf 3 0 Try.underlying27) ?_
 simp only [lay]
 refine lv (.bool d.mf) (by exact xc Try.underlying4 (has40.cell 3 rfl)) ?_
 simp only [lay]
 refine lv (.bool d.mf) (by exact xm) ?_
 simp only [lay]
 by_cases q185 : d.mf = true
 case pos =>
  rw [q185]
  refine lzn ?_
  simp only [lay]
  refine lzn ?_
  simp only [lay]
  refine lzn ?_
  simp only [lay]
  refine lv (.bool true) (by exact xp (b := true)) ?_
  simp only [lay]
  refine wn ?_
  refine cT9 ?_
  refine rg_drawn g25 (by kernel_rfl) (by omega) ?_
  intro W186 hb187 hs188 hS189
  have z190 := hb187.size
  refine te 0 (.pointer (some ⟨g1, 1, none⟩)) hS189 rfl (by intro _ _; exact xf 1 0 Try.underlying27) ?_
  simp only [lay]
  refine te 1 (.int .u16 d.id) hS189 rfl (by intro _ h; exact xc Try.underlying22 ((hg3.to (b39.trans (Below.mono h l38))).cell 1 rfl)) ?_
  simp only [lay]
  refine te 2 (.int .u32 d.id) hS189 rfl (by intro _ _; exact xv (conv_u32 22 33 .u16 d.id (by kernel_rfl) Try.underlying33 (by omega) (by omega) _)) ?_
  simp only [lay]
  refine te 3 (.pointer (some ⟨g1, 4, none⟩)) hS189 rfl (by intro _ _; exact xf 4 0 Try.underlying27) ?_
  simp only [lay]
  refine te 4 (.int .i64 d.off) hS189 rfl (by intro _ h; exact xc Try.underlying3 ((hg3.to (b39.trans (Below.mono h l38))).cell 4 rfl)) ?_
  simp only [lay]
  refine te 5 (.pointer (some ⟨g1, 3, none⟩)) hS189 rfl (by intro _ _; exact xf 3 0 Try.underlying27) ?_
  simp only [lay]
  refine te 6 (.bool d.mf) hS189 rfl (by intro _ h; exact xc Try.underlying4 ((hg3.to (b39.trans (Below.mono h l38))).cell 3 rfl)) ?_
  simp only [lay]
  refine te 7 (.pointer (some ⟨g25, 36, none⟩)) hS189 rfl (by intro _ _; exact xf 36 0 Try.underlying36) ?_
  simp only [lay]
  have has195 := hg33.to hb187
  refine t1 8 rfl (ow_st1 4 (.tmp 38) (.const (.bool true)) g25 36 (.bool true) _ (h41 d.tos 0 d.ttl s t none 0 0 true 0 0 false d.proto A bl.length c) _ rfl (by exact rfl) (by exact rfl) rfl (by kernel_rfl) has195 rfl rfl (by kernel_rfl) ?_)
  intro W191 hg192 bs193 hb194
  have z196 := hb194.size
  refine ⟨(Below.trans hS189 hb194), ?_⟩
  have hS197 := (Below.trans hS189 hb194)
  simp only [lay]
  refine te 9 (.pointer (some ⟨g25, 37, none⟩)) hS197 rfl (by intro _ _; exact xf 37 0 Try.underlying36) ?_
  simp only [lay]
  refine t1 10 rfl (ow_st1 33 (.tmp 39) (.tmp 33) g25 37 (.int .u32 d.id) _ (h41 d.tos 0 d.ttl s t none 0 0 true d.id 0 false d.proto A bl.length c) _ rfl (by exact rfl) (by exact rfl) rfl (by kernel_rfl) hg192 rfl rfl (by kernel_rfl) ?_)
  intro W198 hg199 bs200 hb201
  have z202 := hb201.size
  refine ⟨(Below.trans hS197 hb201), ?_⟩
  have hS203 := (Below.trans hS197 hb201)
  simp only [lay]
  refine te 11 (.pointer (some ⟨g25, 38, none⟩)) hS203 rfl (by intro _ _; exact xf 38 0 Try.underlying36) ?_
  simp only [lay]
  refine t1 12 rfl (ow_st1 3 (.tmp 40) (.tmp 35) g25 38 (.int .i64 d.off) _ (h41 d.tos 0 d.ttl s t none 0 0 true d.id d.off false d.proto A bl.length c) _ rfl (by exact rfl) (by exact rfl) rfl (by kernel_rfl) hg199 rfl rfl (by kernel_rfl) ?_)
  intro W204 hg205 bs206 hb207
  have z208 := hb207.size
  refine ⟨(Below.trans hS203 hb207), ?_⟩
  have hS209 := (Below.trans hS203 hb207)
  simp only [lay]
  refine te 13 (.pointer (some ⟨g25, 39, none⟩)) hS209 rfl (by intro _ _; exact xf 39 0 Try.underlying36) ?_
  simp only [lay]
  refine t1 14 rfl (ow_st1 4 (.tmp 41) (.tmp 37) g25 39 (.bool d.mf) _ (h41 d.tos 0 d.ttl s t none 0 0 true d.id d.off d.mf d.proto A bl.length c) _ rfl (by exact rfl) (by exact rfl) rfl (by kernel_rfl) hg205 rfl rfl (by kernel_rfl) ?_)
  intro W210 hg211 bs212 hb213
  have z214 := hb213.size
  refine ⟨(Below.trans hS209 hb213), ?_⟩
  have hS215 := (Below.trans hS209 hb213)
  simp only [lay]
  refine wpAnyH_done (by kernel_rfl) ?_ _
  change Code.wp _ _ _ _ _
  refine wp_sr ?_
  refine lv (.agg (h41 d.tos 0 d.ttl s t none 0 0 true d.id d.off d.mf d.proto A bl.length c)) (by exact xo (hg211.load (P := Try.prog) 36 Try.underlying36 rfl (by kernel_rfl))) ?_
  simp only [lay]
  have l220 : W16.heap.size ≤ g25 := Nat.le_of_eq ge28.symm
  have b221 := hb30.trans (hb35.mono l220)
  have b222 := bt b221 hb187
  have b223 := b222.trans (hb194.mono l220)
  have b224 := b223.trans (hb201.mono l220)
  have b225 := b224.trans (hb207.mono l220)
  have b226 := b225.trans (hb213.mono l220)
  have has227 := hg17.to b226
  refine lz (ow_st 36 (.tmp 6) (.tmp 42) g15 (h41 d.tos 0 d.ttl s t none 0 0 true d.id d.off d.mf d.proto A bl.length c) _ _ rfl (by exact rfl) (by exact rfl) has227 (by kernel_rfl) rfl (by kernel_rfl) ?_)
  intro W216 hg217 bs218 hb219
  have z228 := hb219.size
  have has229 := hg211.but6 bs218 (by omega)
  simp only [lay]
  refine wn ?_
  refine wp_ret ?_
  try simp only [Exit.then]
  have qp : d.part = true := by unfold D4.part; simp [*]; try omega
  have e : (head17 d s t bl).cells (pB6 A c) = #[.int .u8 d.tos, .int .u32 0, .int .u8 d.ttl, .int .u8 (s.getD 0 0), .int .u8 (s.getD 1 0), .int .u8 (s.getD 2 0), .int .u8 (s.getD 3 0), .int .u8 (s.getD 4 0), .int .u8 (s.getD 5 0), .int .u8 (s.getD 6 0), .int .u8 (s.getD 7 0), .int .u8 (s.getD 8 0), .int .u8 (s.getD 9 0), .int .u8 (s.getD 10 0), .int .u8 (s.getD 11 0), .int .u8 (s.getD 12 0), .int .u8 (s.getD 13 0), .int .u8 (s.getD 14 0), .int .u8 (s.getD 15 0), .int .u8 (t.getD 0 0), .int .u8 (t.getD 1 0), .int .u8 (t.getD 2 0), .int .u8 (t.getD 3 0), .int .u8 (t.getD 4 0), .int .u8 (t.getD 5 0), .int .u8 (t.getD 6 0), .int .u8 (t.getD 7 0), .int .u8 (t.getD 8 0), .int .u8 (t.getD 9 0), .int .u8 (t.getD 10 0), .int .u8 (t.getD 11 0), .int .u8 (t.getD 12 0), .int .u8 (t.getD 13 0), .int .u8 (t.getD 14 0), .int .u8 (t.getD 15 0), .slice none 0 0, .bool true, .int .u32 d.id, .int .i64 d.off, .bool d.mf, .int .u8 d.proto, .slice A bl.length c] := by simp only [head17, pro17, *, if_true, if_false, Bool.false_eq_true]; rfl
  have b230 := bt hb6 hb13
  have b231 := bt b230 hb20
  have b232 := bt b231 hb30
  have l233 := lq b231 ge28
  have b234 := b232.trans (hb35.mono l233)
  have b235 := bt b234 hb187
  have b236 := b235.trans (hb194.mono l233)
  have b237 := b236.trans (hb201.mono l233)
  have b238 := b237.trans (hb207.mono l233)
  have b239 := b238.trans (hb213.mono l233)
  have l240 := lq b230 ge18
  have b241 := b239.trans (hb219.mono l240)
  exact bodyPost_ret (res_cell Try.results48 rfl (hg217.load (P := Try.prog) 36 Try.underlying36 rfl (by kernel_rfl))) rfl ⟨by rw [e], b241⟩
 replace q185 := eq_false_of_ne_true q185
 rw [q185]
 refine lv (.pointer (some ⟨g1, 4, none⟩)) (by exact xf 4 0 Try.underlying27) ?_
 simp only [lay]
 refine lv (.int .i64 d.off) (by exact xc Try.underlying3 (has40.cell 4 rfl)) ?_
 simp only [lay]
 by_cases q242 : d.off > 0
 case pos =>
  refine lv (.bool true) (by exact ex_gtr (by exact rfl) (by exact rfl) (by exact rfl) (decide_eq_true (by first | assumption | omega | decide))) ?_
  simp only [lay]
  refine lv (.bool true) (by exact xp (b := false)) ?_
  simp only [lay]
  refine wn ?_
  refine cT9 ?_
  refine rg_drawn g25 (by kernel_rfl) (by omega) ?_
  intro W243 hb244 hs245 hS246
  have z247 := hb244.size
  refine te 0 (.pointer (some ⟨g1, 1, none⟩)) hS246 rfl (by intro _ _; exact xf 1 0 Try.underlying27) ?_
  simp only [lay]
  refine te 1 (.int .u16 d.id) hS246 rfl (by intro _ h; exact xc Try.underlying22 ((hg3.to (b39.trans (Below.mono h l38))).cell 1 rfl)) ?_
  simp only [lay]
  refine te 2 (.int .u32 d.id) hS246 rfl (by intro _ _; exact xv (conv_u32 22 33 .u16 d.id (by kernel_rfl) Try.underlying33 (by omega) (by omega) _)) ?_
  simp only [lay]
  refine te 3 (.pointer (some ⟨g1, 4, none⟩)) hS246 rfl (by intro _ _; exact xf 4 0 Try.underlying27) ?_
  simp only [lay]
  refine te 4 (.int .i64 d.off) hS246 rfl (by intro _ h; exact xc Try.underlying3 ((hg3.to (b39.trans (Below.mono h l38))).cell 4 rfl)) ?_
  simp only [lay]
  refine te 5 (.pointer (some ⟨g1, 3, none⟩)) hS246 rfl (by intro _ _; exact xf 3 0 Try.underlying27) ?_
  simp only [lay]
  refine te 6 (.bool d.mf) hS246 rfl (by intro _ h; exact xc Try.underlying4 ((hg3.to (b39.trans (Below.mono h l38))).cell 3 rfl)) ?_
  simp only [lay]
  refine te 7 (.pointer (some ⟨g25, 36, none⟩)) hS246 rfl (by intro _ _; exact xf 36 0 Try.underlying36) ?_
  simp only [lay]
  have has252 := hg33.to hb244
  refine t1 8 rfl (ow_st1 4 (.tmp 38) (.const (.bool true)) g25 36 (.bool true) _ (h41 d.tos 0 d.ttl s t none 0 0 true 0 0 false d.proto A bl.length c) _ rfl (by exact rfl) (by exact rfl) rfl (by kernel_rfl) has252 rfl rfl (by kernel_rfl) ?_)
  intro W248 hg249 bs250 hb251
  have z253 := hb251.size
  refine ⟨(Below.trans hS246 hb251), ?_⟩
  have hS254 := (Below.trans hS246 hb251)
  simp only [lay]
  refine te 9 (.pointer (some ⟨g25, 37, none⟩)) hS254 rfl (by intro _ _; exact xf 37 0 Try.underlying36) ?_
  simp only [lay]
  refine t1 10 rfl (ow_st1 33 (.tmp 39) (.tmp 33) g25 37 (.int .u32 d.id) _ (h41 d.tos 0 d.ttl s t none 0 0 true d.id 0 false d.proto A bl.length c) _ rfl (by exact rfl) (by exact rfl) rfl (by kernel_rfl) hg249 rfl rfl (by kernel_rfl) ?_)
  intro W255 hg256 bs257 hb258
  have z259 := hb258.size
  refine ⟨(Below.trans hS254 hb258), ?_⟩
  have hS260 := (Below.trans hS254 hb258)
  simp only [lay]
  refine te 11 (.pointer (some ⟨g25, 38, none⟩)) hS260 rfl (by intro _ _; exact xf 38 0 Try.underlying36) ?_
  simp only [lay]
  refine t1 12 rfl (ow_st1 3 (.tmp 40) (.tmp 35) g25 38 (.int .i64 d.off) _ (h41 d.tos 0 d.ttl s t none 0 0 true d.id d.off false d.proto A bl.length c) _ rfl (by exact rfl) (by exact rfl) rfl (by kernel_rfl) hg256 rfl rfl (by kernel_rfl) ?_)
  intro W261 hg262 bs263 hb264
  have z265 := hb264.size
  refine ⟨(Below.trans hS260 hb264), ?_⟩
  have hS266 := (Below.trans hS260 hb264)
  simp only [lay]
  refine te 13 (.pointer (some ⟨g25, 39, none⟩)) hS266 rfl (by intro _ _; exact xf 39 0 Try.underlying36) ?_
  simp only [lay]
  refine t1 14 rfl (ow_st1 4 (.tmp 41) (.tmp 37) g25 39 (.bool d.mf) _ (h41 d.tos 0 d.ttl s t none 0 0 true d.id d.off d.mf d.proto A bl.length c) _ rfl (by exact rfl) (by exact rfl) rfl (by kernel_rfl) hg262 rfl rfl (by kernel_rfl) ?_)
  intro W267 hg268 bs269 hb270
  have z271 := hb270.size
  refine ⟨(Below.trans hS266 hb270), ?_⟩
  have hS272 := (Below.trans hS266 hb270)
  simp only [lay]
  refine wpAnyH_done (by kernel_rfl) ?_ _
  change Code.wp _ _ _ _ _
  refine wp_sr ?_
  refine lv (.agg (h41 d.tos 0 d.ttl s t none 0 0 true d.id d.off d.mf d.proto A bl.length c)) (by exact xo (hg268.load (P := Try.prog) 36 Try.underlying36 rfl (by kernel_rfl))) ?_
  simp only [lay]
  have l277 : W16.heap.size ≤ g25 := Nat.le_of_eq ge28.symm
  have b278 := hb30.trans (hb35.mono l277)
  have b279 := bt b278 hb244
  have b280 := b279.trans (hb251.mono l277)
  have b281 := b280.trans (hb258.mono l277)
  have b282 := b281.trans (hb264.mono l277)
  have b283 := b282.trans (hb270.mono l277)
  have has284 := hg17.to b283
  refine lz (ow_st 36 (.tmp 6) (.tmp 42) g15 (h41 d.tos 0 d.ttl s t none 0 0 true d.id d.off d.mf d.proto A bl.length c) _ _ rfl (by exact rfl) (by exact rfl) has284 (by kernel_rfl) rfl (by kernel_rfl) ?_)
  intro W273 hg274 bs275 hb276
  have z285 := hb276.size
  have has286 := hg268.but6 bs275 (by omega)
  simp only [lay]
  refine wn ?_
  refine wp_ret ?_
  try simp only [Exit.then]
  have qp : d.part = true := by unfold D4.part; simp [*]; try omega
  have e : (head17 d s t bl).cells (pB6 A c) = #[.int .u8 d.tos, .int .u32 0, .int .u8 d.ttl, .int .u8 (s.getD 0 0), .int .u8 (s.getD 1 0), .int .u8 (s.getD 2 0), .int .u8 (s.getD 3 0), .int .u8 (s.getD 4 0), .int .u8 (s.getD 5 0), .int .u8 (s.getD 6 0), .int .u8 (s.getD 7 0), .int .u8 (s.getD 8 0), .int .u8 (s.getD 9 0), .int .u8 (s.getD 10 0), .int .u8 (s.getD 11 0), .int .u8 (s.getD 12 0), .int .u8 (s.getD 13 0), .int .u8 (s.getD 14 0), .int .u8 (s.getD 15 0), .int .u8 (t.getD 0 0), .int .u8 (t.getD 1 0), .int .u8 (t.getD 2 0), .int .u8 (t.getD 3 0), .int .u8 (t.getD 4 0), .int .u8 (t.getD 5 0), .int .u8 (t.getD 6 0), .int .u8 (t.getD 7 0), .int .u8 (t.getD 8 0), .int .u8 (t.getD 9 0), .int .u8 (t.getD 10 0), .int .u8 (t.getD 11 0), .int .u8 (t.getD 12 0), .int .u8 (t.getD 13 0), .int .u8 (t.getD 14 0), .int .u8 (t.getD 15 0), .slice none 0 0, .bool true, .int .u32 d.id, .int .i64 d.off, .bool d.mf, .int .u8 d.proto, .slice A bl.length c] := by simp only [head17, pro17, *, if_true, if_false, Bool.false_eq_true]; rfl
  have b287 := bt hb6 hb13
  have b288 := bt b287 hb20
  have b289 := bt b288 hb30
  have l290 := lq b288 ge28
  have b291 := b289.trans (hb35.mono l290)
  have b292 := bt b291 hb244
  have b293 := b292.trans (hb251.mono l290)
  have b294 := b293.trans (hb258.mono l290)
  have b295 := b294.trans (hb264.mono l290)
  have b296 := b295.trans (hb270.mono l290)
  have l297 := lq b287 ge18
  have b298 := b296.trans (hb276.mono l297)
  exact bodyPost_ret (res_cell Try.results48 rfl (hg274.load (P := Try.prog) 36 Try.underlying36 rfl (by kernel_rfl))) rfl ⟨by rw [e], b298⟩
 refine lv (.bool false) (by exact ex_gtr (by exact rfl) (by exact rfl) (by exact rfl) (decide_eq_false (by first | assumption | omega | decide))) ?_
 simp only [lay]
 refine lv (.bool false) (by exact xp (b := false)) ?_
 simp only [lay]
 refine wn ?_
 refine cF9 ?_
 refine wp_skip ?_
 change Code.wp _ _ _ _ _
 refine wp_sr ?_
 refine lv (.agg (h41 d.tos 0 d.ttl s t none 0 0 false 0 0 false d.proto A bl.length c)) (by exact xo (hg33.load (P := Try.prog) 36 Try.underlying36 rfl (by kernel_rfl))) ?_
 simp only [lay]
 have l303 : W16.heap.size ≤ g25 := Nat.le_of_eq ge28.symm
 have b304 := hb30.trans (hb35.mono l303)
 have has305 := hg17.to b304
 refine lz (ow_st 36 (.tmp 6) (.tmp 42) g15 (h41 d.tos 0 d.ttl s t none 0 0 false 0 0 false d.proto A bl.length c) _ _ rfl (by exact rfl) (by exact rfl) has305 (by kernel_rfl) rfl (by kernel_rfl) ?_)
 intro W299 hg300 bs301 hb302
 have z306 := hb302.size
 have has307 := hg33.but6 bs301 (by omega)
 simp only [lay]
 refine wn ?_
 refine wp_ret ?_
 try simp only [Exit.then]
 have qp : d.part = false := by unfold D4.part; simp [*]; try omega
 have e : (head17 d s t bl).cells (pB6 A c) = #[.int .u8 d.tos, .int .u32 0, .int .u8 d.ttl, .int .u8 (s.getD 0 0), .int .u8 (s.getD 1 0), .int .u8 (s.getD 2 0), .int .u8 (s.getD 3 0), .int .u8 (s.getD 4 0), .int .u8 (s.getD 5 0), .int .u8 (s.getD 6 0), .int .u8 (s.getD 7 0), .int .u8 (s.getD 8 0), .int .u8 (s.getD 9 0), .int .u8 (s.getD 10 0), .int .u8 (s.getD 11 0), .int .u8 (s.getD 12 0), .int .u8 (s.getD 13 0), .int .u8 (s.getD 14 0), .int .u8 (s.getD 15 0), .int .u8 (t.getD 0 0), .int .u8 (t.getD 1 0), .int .u8 (t.getD 2 0), .int .u8 (t.getD 3 0), .int .u8 (t.getD 4 0), .int .u8 (t.getD 5 0), .int .u8 (t.getD 6 0), .int .u8 (t.getD 7 0), .int .u8 (t.getD 8 0), .int .u8 (t.getD 9 0), .int .u8 (t.getD 10 0), .int .u8 (t.getD 11 0), .int .u8 (t.getD 12 0), .int .u8 (t.getD 13 0), .int .u8 (t.getD 14 0), .int .u8 (t.getD 15 0), .slice none 0 0, .bool false, .int .u32 0, .int .i64 0, .bool false, .int .u8 d.proto, .slice A bl.length c] := by simp only [head17, pro17, *, if_true, if_false, Bool.false_eq_true]; rfl
 have b308 := bt hb6 hb13
 have b309 := bt b308 hb20
 have b310 := bt b309 hb30
 have l311 := lq b309 ge28
 have b312 := b310.trans (hb35.mono l311)
 have l313 := lq b308 ge18
 have b314 := b312.trans (hb302.mono l313)
 exact bodyPost_ret (res_cell Try.results48 rfl (hg300.load (P := Try.prog) 36 Try.underlying36 rfl (by kernel_rfl))) rfl ⟨by rw [e], b314⟩
set_option maxRecDepth 100000 in
theorem rfour_any (d : D4) (hd : d.ok) (p : W4) (w : World) :
  Calls Try.prog 102 #[.agg (d.cells p)] w fun e w' => ∃ v, e = .returned v ∧ OwnB w' w.heap.size v (from17 d) ∧ Below w.heap.size w w' := by
 go_enter Try.func102, Try.ntmps102
 refine wp_sr ?_
 refine lz (ow_box 27 (.tmp 0) _ rfl rfl ?_)
 intro g1 W2 hg3 ge4 sz5 hb6
 have z7 := hb6.size
 simp only [lay]
 refine lv (.slice none 0 0) (by exact xa) ?_
 simp only [lay]
 refine wn ?_
 refine wp_seq ?_
 refine rg_drawn W2.heap.size (by kernel_rfl) (Nat.le_refl _) ?_
 intro W8 hb9 hs10 hS11
 have z12 := hb9.size
 refine te 1 (.pointer (some ⟨g1, 7, none⟩)) hS11 rfl (by intro _ _; exact xf 7 3 Try.underlying27) ?_
 simp only [lay]
 refine te 2 (.slice (some ⟨g1, 7, none⟩) 4 4) hS11 rfl (by intro _ _; exact ex_arr (by exact rfl) Try.underlying24 (by kernel_rfl) (by exact rfl)) ?_
 simp only [lay]
 refine te 4 (.pointer (some ⟨g1, 11, none⟩)) hS11 rfl (by intro _ _; exact xf 11 3 Try.underlying27) ?_
 simp only [lay]
 refine te 5 (.slice (some ⟨g1, 11, none⟩) 4 4) hS11 rfl (by intro _ _; exact ex_arr (by exact rfl) Try.underlying24 (by kernel_rfl) (by exact rfl)) ?_
 simp only [lay]
 refine t1 0 rfl (ow_build0 rfl Try.underlying25 (by kernel_rfl) ?_)
 intro g13 W14 hg15 ge16 sz17 hb18
 have z19 := hb18.size
 have hO20 : OwnB W14 W8.heap.size (.slice (some ⟨g13, 0, none⟩) 0 0) [] := OwnB.blk (l := []) hg15 (Nat.le_of_eq ge16.symm) rfl InB.nil (by simp)
 refine ⟨(Below.trans hS11 (hb18.mono hS11.size)), ?_⟩
 have hS21 := (Below.trans hS11 (hb18.mono hS11.size))
 simp only [lay]
 have b27 := bt hb9 hb18
 have has28 := hg3.to b27
 refine t1 3 rfl (ow_app (.tmp 3) (.tmp 5) 25 rfl Try.underlying25 info8 _ _ [] rfl hO20 _ _ _ _ d.src rfl (has28.byIn 7 4 d.src rfl (by kernel_rfl) hd.src (by decide)) (by simp [D4.src, D4.dst]) hb18.size ?_)
 intro v26 W22 hO23 hb24 hgr25
 have z29 := hb24.size
 have hO30 : OwnB W22 W8.heap.size v26 d.src := hO23
 obtain ⟨A31, c32, rfl, y33⟩ := hO30.by_
 refine ⟨(Below.trans hS21 (hb24.mono hb9.size)), ?_⟩
 have hS34 := (Below.trans hS21 (hb24.mono hb9.size))
 simp only [lay]
 have l40 := Nat.le_trans hb9.size (Nat.le_refl _)
 have b41 := b27.trans (hb24.mono l40)
 have has42 := hg3.to b41
 have b43 := hb18.trans (hb24.mono (Nat.le_refl _))
 refine t1 6 rfl (ow_app (.tmp 6) (.tmp 8) 25 rfl Try.underlying25 info8 _ _ d.src rfl hO30 _ _ _ _ d.dst rfl (has42.byIn 11 4 d.dst rfl (by kernel_rfl) hd.dst (by decide)) (by simp [D4.src, D4.dst]) b43.size ?_)
 intro v39 W35 hO36 hb37 hgr38
 have z44 := hb37.size
 obtain ⟨A45, c46, rfl, y47⟩ := hO36.by_
 refine ⟨(Below.trans hS34 (hb37.mono hb9.size)), ?_⟩
 have hS48 := (Below.trans hS34 (hb37.mono hb9.size))
 simp only [lay]
 obtain ⟨g49, rfl, h50, h51⟩ := own_form hO36 (by first | omega | simp [D4.src])
 have b56 := b43.trans (hb37.mono (Nat.le_refl _))
 refine t1 7 rfl (ow_zeros (.tmp 9) (.const (.int .i64 24)) 25 3 rfl Try.underlying25 Try.underlying3 info8 _ g49 ((d.src ++ d.dst).length) c46 24 (d.src ++ d.dst) rfl hO36 rfl (by decide) (by simp [D4.src, D4.dst]) b56.size ?_)
 intro v55 W52 hO53 hb54
 have z57 := hb54.size
 obtain ⟨A58, c59, rfl, y60⟩ := hO53.by_
 refine ⟨(Below.trans hS48 (hb54.mono hb9.size)), ?_⟩
 have hS61 := (Below.trans hS48 (hb54.mono hb9.size))
 simp only [lay]
 refine te 8 (.slice A58 ((d.src ++ d.dst ++ List.replicate 24 0).length) c59) hS61 rfl (by intro _ _; exact xa) ?_
 simp only [lay]
 refine wpAnyH_done (by kernel_rfl) ?_ _
 change Code.wp _ _ _ _ _
 refine wp_ret ?_
 try simp only [Exit.then]
 have b62 := bt hb6 hb9
 have b63 := bt b62 hb18
 have l64 := Nat.le_trans b62.size (Nat.le_refl _)
 have b65 := b63.trans (hb24.mono l64)
 have l66 := Nat.le_trans b62.size (Nat.le_refl _)
 have b67 := b65.trans (hb37.mono l66)
 have l68 := Nat.le_trans b62.size (Nat.le_refl _)
 have b69 := b67.trans (hb54.mono l68)
 exact bodyPost_ret (res_one Try.results102 rfl) rfl ⟨_, rfl, (by exact (hO53.more b62.size)), b69⟩
set_option maxRecDepth 100000 in
theorem rsix_any (s t : List Int) (hE : E6ok s t) (w : World) :
  Calls Try.prog 91 #[.agg (ends6 s t)] w fun e w' => ∃ v, e = .returned v ∧ OwnB w' w.heap.size v (s ++ t) ∧ Below w.heap.size w w' := by
 have sL := hE.sL
 have tL := hE.tL
 go_enter Try.func91, Try.ntmps91
 refine wp_sr ?_
 refine lz (ow_box 31 (.tmp 0) _ rfl rfl ?_)
 intro g1 W2 hg3 ge4 sz5 hb6
 have z7 := hb6.size
 simp only [lay]
 refine lv (.slice none 0 0) (by exact xa) ?_
 simp only [lay]
 refine wn ?_
 refine wp_seq ?_
 refine rg_drawn W2.heap.size (by kernel_rfl) (Nat.le_refl _) ?_
 intro W8 hb9 hs10 hS11
 have z12 := hb9.size
 refine te 1 (.pointer (some ⟨g1, 0, none⟩)) hS11 rfl (by intro _ _; exact xf 0 15 Try.underlying31) ?_
 simp only [lay]
 refine te 2 (.slice (some ⟨g1, 0, none⟩) 16 16) hS11 rfl (by intro _ _; exact ex_arr (by exact rfl) Try.underlying29 (by kernel_rfl) (by exact rfl)) ?_
 simp only [lay]
 refine te 4 (.pointer (some ⟨g1, 16, none⟩)) hS11 rfl (by intro _ _; exact xf 16 15 Try.underlying31) ?_
 simp only [lay]
 refine te 5 (.slice (some ⟨g1, 16, none⟩) 16 16) hS11 rfl (by intro _ _; exact ex_arr (by exact rfl) Try.underlying29 (by kernel_rfl) (by exact rfl)) ?_
 simp only [lay]
 refine t1 0 rfl (ow_build0 rfl Try.underlying25 (by kernel_rfl) ?_)
 intro g13 W14 hg15 ge16 sz17 hb18
 have z19 := hb18.size
 have hO20 : OwnB W14 W8.heap.size (.slice (some ⟨g13, 0, none⟩) 0 0) [] := OwnB.blk (l := []) hg15 (Nat.le_of_eq ge16.symm) rfl InB.nil (by simp)
 refine ⟨(Below.trans hS11 (hb18.mono hS11.size)), ?_⟩
 have hS21 := (Below.trans hS11 (hb18.mono hS11.size))
 simp only [lay]
 have b27 := bt hb9 hb18
 have has28 := hg3.to b27
 refine t1 3 rfl (ow_app (.tmp 3) (.tmp 5) 25 rfl Try.underlying25 info8 _ _ [] rfl hO20 _ _ _ _ s rfl (has28.byIn 0 16 s hE.sL ((show (_ : List Value) = u8s (l16 s) from by kernel_rfl).trans (u8s_16 hE.sL)) hE.s (by decide)) (by simp [sL]) hb18.size ?_)
 intro v26 W22 hO23 hb24 hgr25
 have z29 := hb24.size
 have hO30 : OwnB W22 W8.heap.size v26 s := hO23
 obtain ⟨A31, c32, rfl, y33⟩ := hO30.by_
 refine ⟨(Below.trans hS21 (hb24.mono hb9.size)), ?_⟩
 have hS34 := (Below.trans hS21 (hb24.mono hb9.size))
 simp only [lay]
 have l40 := Nat.le_trans hb9.size (Nat.le_refl _)
 have b41 := b27.trans (hb24.mono l40)
 have has42 := hg3.to b41
 have b43 := hb18.trans (hb24.mono (Nat.le_refl _))
 refine t1 6 rfl (ow_app (.tmp 6) (.tmp 8) 25 rfl Try.underlying25 info8 _ _ s rfl hO30 _ _ _ _ t rfl (has42.byIn 16 16 t hE.tL ((show (_ : List Value) = u8s (l16 t) from by kernel_rfl).trans (u8s_16 hE.tL)) hE.t (by decide)) (by simp [sL]) b43.size ?_)
 intro v39 W35 hO36 hb37 hgr38
 have z44 := hb37.size
 obtain ⟨A45, c46, rfl, y47⟩ := hO36.by_
 refine ⟨(Below.trans hS34 (hb37.mono hb9.size)), ?_⟩
 have hS48 := (Below.trans hS34 (hb37.mono hb9.size))
 simp only [lay]
 refine te 7 (.slice A45 ((s ++ t).length) c46) hS48 rfl (by intro _ _; exact xa) ?_
 simp only [lay]
 refine wpAnyH_done (by kernel_rfl) ?_ _
 change Code.wp _ _ _ _ _
 refine wp_ret ?_
 try simp only [Exit.then]
 have b49 := bt hb6 hb9
 have b50 := bt b49 hb18
 have l51 := Nat.le_trans b49.size (Nat.le_refl _)
 have b52 := b50.trans (hb24.mono l51)
 have l53 := Nat.le_trans b49.size (Nat.le_refl _)
 have b54 := b52.trans (hb37.mono l53)
 exact bodyPost_ret (res_one Try.results91 rfl) rfl ⟨_, rfl, (by exact (hO36.more b49.size)), b54⟩
end Go.Proofs.Ytijnifbpbgckgaa
