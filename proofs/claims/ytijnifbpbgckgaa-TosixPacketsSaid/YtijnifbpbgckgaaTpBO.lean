/-
  Lemmas and walks for the row of TosixPackets (part 41 of 45).
-/
import Derived.Test.YtijnifbpbgckgaaTpAF
import Derived.Test.YtijnifbpbgckgaaTpBC
import Derived.Test.YtijnifbpbgckgaaTpBM
import Derived.Test.YtijnifbpbgckgaaTpBN
set_option linter.unusedVariables false
set_option linter.unusedSimpArgs false
namespace Go.Proofs.Ytijnifbpbgckgaa
open Go.RowKit Go.Shelf
attribute [local irreducible] wpList Code.wp Oper.wp wpOp wpAnyH

set_option maxRecDepth 100000 in
set_option maxHeartbeats 8000000 in
theorem rmsg17_any (m : D7) (A : Option Addr) (c : Nat) (s t : List Int) (hE : E6ok s t) (w : World) (hR : Rd7 w.heap.size w m A c) :
  Calls Try.prog 15 #[.agg (m.cells A c), .agg (ends6 s t)] w fun e w' => ToldM17 (msg17 m s t) w.heap.size w' e ∧ Below w.heap.size w w' := by
 obtain ⟨IE, hIE⟩ : ∃ x, (inside17 m.bl s t).2 = x := ⟨_, rfl⟩
 obtain ⟨IL, hIL⟩ : ∃ x, (inside17 m.bl s t).1 = x := ⟨_, rfl⟩
 have y := hR.body
 go_enter Try.func15, Try.ntmps15
 refine wp_sr ?_
 refine lz (ow_box 46 (.tmp 0) _ rfl rfl ?_)
 intro g1 W2 hg3 ge4 sz5 hb6
 have z7 := hb6.size
 simp only [lay]
 refine lz (ow_box 31 (.tmp 1) _ rfl rfl ?_)
 intro g8 W9 hg10 ge11 sz12 hb13
 have z14 := hb13.size
 simp only [lay]
 refine lz (oa #[.int .u8 0, .int .u8 0, .int .u32 0, .slice none 0 0] ?_)
 intro g15 W16 hg17 ge18 sz19 hb20
 have z21 := hb20.size
 simp only [lay]
 refine lv (.int .i64 0) (by exact xa) ?_
 simp only [lay]
 refine wn ?_
 refine wp_sr ?_
 have b22 := bt hb13 hb20
 have has23 := hg3.to b22
 refine lv (.agg (m.cells A c)) (by exact xo (has23.load (P := Try.prog) 46 Try.underlying46 rfl (by kernel_rfl))) ?_
 simp only [lay]
 refine lz (ow_call (fun v w' => (∃ a b c', v = .tuple #[.agg #[.int .u8 a, .int .u8 b, .int .u32 c', .slice none 0 0], .bool (kind17 m).2] ∧ ((kind17 m).2 = true → (kind17 m).1 = (a, b, c'))) ∧ Below W16.heap.size W16 w') (by exact xk Try.func52) ((rkind17_any m hR.ok _ _ W16).mono (by rintro e w' ⟨⟨a, b, c', rfl, hk⟩, hb⟩; exact ⟨_, rfl, ⟨a, b, c', rfl, hk⟩, hb⟩)) ?_)
 rintro _ W24 ⟨⟨q126, q227, q328, rfl, hk29⟩, hb25⟩
 have z30 := hb25.size
 simp only [lay]
 refine lv (.tuple #[.agg #[.int .u8 q126, .int .u8 q227, .int .u32 q328, .slice none 0 0], .bool ((kind17 m).2)]) (by exact xm) ?_
 simp only [lay]
 refine lv (.agg #[.int .u8 q126, .int .u8 q227, .int .u32 q328, .slice none 0 0]) (by exact xe) ?_
 simp only [lay]
 refine lv (.bool ((kind17 m).2)) (by exact xe) ?_
 simp only [lay]
 refine lz (oa #[.int .u8 0, .int .u8 0, .int .u32 0, .slice none 0 0] ?_)
 intro g31 W32 hg33 ge34 sz35 hb36
 have z37 := hb36.size
 simp only [lay]
 refine lz (ow_st 46 (.tmp 6) (.tmp 13) g31 #[.int .u8 q126, .int .u8 q227, .int .u32 q328, .slice none 0 0] _ _ rfl (by exact rfl) (by exact rfl) hg33 (by kernel_rfl) rfl (by kernel_rfl) ?_)
 intro W38 hg39 bs40 hb41
 have z42 := hb41.size
 simp only [lay]
 refine lv (.bool ((kind17 m).2)) (by exact xa) ?_
 simp only [lay]
 refine wn ?_
 refine wp_seq ?_
 refine wp_sr ?_
 refine lv (.bool ((kind17 m).2)) (by exact xm) ?_
 simp only [lay]
 by_cases q43 : (kind17 m).2 = true
 case pos =>
  rw [q43]
  have hkk := hk29 q43
  refine lv (.bool false) (by exact ex_not (b := true) (by exact rfl) (by exact rfl)) ?_
  simp only [lay]
  refine wn ?_
  refine cF9 ?_
  refine wp_skip ?_
  change Code.wp _ _ _ _ _
  refine wp_seq ?_
  refine wp_sr ?_
  refine lv (.pointer (some ⟨g1, 3, none⟩)) (by exact xf 3 0 Try.underlying46) ?_
  simp only [lay]
  have b44 := bt b22 hb25
  have b45 := bt b44 hb36
  have l46 := lq b44 ge34
  have b47 := b45.trans (hb41.mono l46)
  have has48 := hg3.to b47
  refine lv (.slice A m.bl.length c) (by exact xc Try.underlying25 (has48.cell 3 rfl)) ?_
  simp only [lay]
  refine lv (.int .i64 (m.bl.length : Int)) (by exact xz Try.underlying25) ?_
  simp only [lay]
  by_cases q49 : (m.bl.length : Int) > 65527
  case pos =>
   refine lv (.bool true) (by exact ex_gtr (by exact rfl) (by exact rfl) (by exact rfl) (decide_eq_true (by first | assumption | omega | decide))) ?_
   simp only [lay]
   refine wn ?_
   refine cT9 ?_
   refine wp_sr ?_
   refine lv (.agg #[.int .u8 0, .int .u8 0, .int .u32 0, .slice none 0 0]) (by kernel_rfl) ?_
   simp only [lay]
   have b54 := bt hb25 hb36
   have l55 := lq hb25 ge34
   have b56 := b54.trans (hb41.mono l55)
   have has57 := hg17.to b56
   refine lz (ow_st 46 (.tmp 4) (.tmp 22) g15 #[.int .u8 0, .int .u8 0, .int .u32 0, .slice none 0 0] _ _ rfl (by exact rfl) (by exact rfl) has57 (by kernel_rfl) rfl (by kernel_rfl) ?_)
   intro W50 hg51 bs52 hb53
   have z58 := hb53.size
   have has59 := hg39.but6 bs52 (by omega)
   simp only [lay]
   refine lv (.int .i64 2) (by exact xa) ?_
   simp only [lay]
   refine wn ?_
   refine wp_ret ?_
   try simp only [Exit.then]
   have e : msg17 m s t = (zero7, 2) := by
    unfold msg17
    rw [if_neg (by simp [*])]
    simp only [hkk, hIE, hIL]
    repeat (first | rw [if_pos (by first | assumption | omega)] | rw [if_neg (by first | assumption | omega)])
   have b60 := bt hb6 hb13
   have b61 := bt b60 hb20
   have b62 := bt b61 hb25
   have b63 := bt b62 hb36
   have l64 := lq b62 ge34
   have b65 := b63.trans (hb41.mono l64)
   have l66 := lq b60 ge18
   have b67 := b65.trans (hb53.mono l66)
   exact bodyPost_ret (res_cell2 Try.results15 rfl (hg51.load (P := Try.prog) 46 Try.underlying46 rfl (by kernel_rfl)) rfl) rfl ⟨⟨none, 0, by rw [e]; rfl, by rw [e]; exact zero7_ok, by rw [e]; exact OwnB.nil _ _⟩, b67⟩
  refine lv (.bool false) (by exact ex_gtr (by exact rfl) (by exact rfl) (by exact rfl) (decide_eq_false (by first | assumption | omega | decide))) ?_
  simp only [lay]
  refine wn ?_
  refine cF9 ?_
  refine wp_skip ?_
  change Code.wp _ _ _ _ _
  refine wp_seq ?_
  refine wp_sr ?_
  refine lv (.pointer (some ⟨g31, 0, none⟩)) (by exact xf 0 0 Try.underlying46) ?_
  simp only [lay]
  refine lv (.int .u8 q126) (by exact xc Try.underlying5 (hg39.cell 0 rfl)) ?_
  simp only [lay]
  by_cases q68 : q126 ≥ 128
  case pos =>
   refine lv (.bool true) (by exact ex_geq (by exact rfl) (by exact rfl) (by exact rfl) (decide_eq_true (by first | assumption | omega | decide))) ?_
   simp only [lay]
   refine wn ?_
   refine cT9 ?_
   refine wp_sr ?_
   refine lz (ow_build0 rfl Try.underlying25 (by kernel_rfl) ?_)
   intro g69 W70 hg71 ge72 sz73 hb74
   have z75 := hb74.size
   have hO76 : OwnB W70 W38.heap.size (.slice (some ⟨g69, 0, none⟩) 0 0) [] := OwnB.blk (l := []) hg71 (Nat.le_of_eq ge72.symm) rfl InB.nil (by simp)
   simp only [lay]
   refine lv (.pointer (some ⟨g1, 3, none⟩)) (by exact xf 3 0 Try.underlying46) ?_
   simp only [lay]
   have b77 := bt b47 hb74
   have has78 := hg3.to b77
   refine lv (.slice A m.bl.length c) (by exact xc Try.underlying25 (has78.cell 3 rfl)) ?_
   simp only [lay]
   have b84 := bt hb6 hb13
   have b85 := bt b84 hb20
   have b86 := bt b85 hb25
   have b87 := bt b86 hb36
   have l88 := lq b86 ge34
   have b89 := b87.trans (hb41.mono l88)
   have b90 := bt b89 hb74
   have by91 := y.to b90
   refine lz (ow_app (.tmp 26) (.tmp 28) 25 rfl Try.underlying25 info8 _ _ [] rfl hO76 _ _ _ _ m.bl rfl by91 (by simp only [List.length_nil]; omega) hb74.size ?_)
   intro v83 W79 hO80 hb81 hgr82
   have z92 := hb81.size
   have hO93 : OwnB W79 W38.heap.size v83 m.bl := hO80
   obtain ⟨A94, c95, rfl, y96⟩ := hO93.by_
   simp only [lay]
   refine lv (.pointer (some ⟨g31, 3, none⟩)) (by exact xf 3 0 Try.underlying46) ?_
   simp only [lay]
   have b101 := hb74.trans (hb81.mono (Nat.le_refl _))
   have has102 := hg39.to b101
   refine lz (ow_st1 25 (.tmp 30) (.tmp 29) g31 3 (.slice A94 m.bl.length c95) _ #[.int .u8 q126, .int .u8 q227, .int .u32 q328, .slice A94 m.bl.length c95] _ rfl (by exact rfl) (by exact rfl) rfl (by kernel_rfl) has102 rfl rfl (by kernel_rfl) ?_)
   intro W97 hg98 bs99 hb100
   have z103 := hb100.size
   have own104 := hO93.but6 bs99 (by omega)
   simp only [lay]
   refine wn ?_
   refine wp_sr ?_
   refine lv (.agg #[.int .u8 q126, .int .u8 q227, .int .u32 q328, .slice A94 m.bl.length c95]) (by exact xo (hg98.load (P := Try.prog) 46 Try.underlying46 rfl (by kernel_rfl))) ?_
   simp only [lay]
   have b109 := bt hb25 hb36
   have l110 := lq hb25 ge34
   have b111 := b109.trans (hb41.mono l110)
   have b112 := bt b111 hb74
   have l113 := Nat.le_trans b111.size (Nat.le_refl _)
   have b114 := b112.trans (hb81.mono l113)
   have b115 := b114.trans (hb100.mono l110)
   have has116 := hg17.to b115
   refine lz (ow_st 46 (.tmp 4) (.tmp 31) g15 #[.int .u8 q126, .int .u8 q227, .int .u32 q328, .slice A94 m.bl.length c95] _ _ rfl (by exact rfl) (by exact rfl) has116 (by kernel_rfl) rfl (by kernel_rfl) ?_)
   intro W105 hg106 bs107 hb108
   have z117 := hb108.size
   have own118 := own104.but6 bs107 (by omega)
   have has119 := hg98.but6 bs107 (by omega)
   simp only [lay]
   refine lv (.int .i64 0) (by exact xa) ?_
   simp only [lay]
   refine wn ?_
   refine wp_ret ?_
   try simp only [Exit.then]
   have e : msg17 m s t = (⟨q126, q227, q328, m.bl⟩, 0) := by
    unfold msg17
    rw [if_neg (by simp [*])]
    simp only [hkk, hIE, hIL]
    repeat (first | rw [if_pos (by first | assumption | omega)] | rw [if_neg (by first | assumption | omega)])
   have hok : (⟨q126, q227, q328, m.bl⟩ : D7).ok := by have := kind17_ok hR.ok (m.bl); rw [hkk] at this; exact this
   have hcs : (#[.int .u8 q126, .int .u8 q227, .int .u32 q328, .slice A94 m.bl.length c95] : Array Value) = (⟨q126, q227, q328, m.bl⟩ : D7).cells A94 c95 := by
    show _ = (#[.int .u8 q126, .int .u8 q227, .int .u32 q328, .slice A94 (m.bl).length c95] : Array Value)
    rw [← own_len own118]
   have h4 := hg106
   rw [hcs] at h4
   have hO4 := own_norm (own118.more b89.size)
   have l120 := Nat.le_trans b89.size (Nat.le_refl _)
   have b121 := b90.trans (hb81.mono l120)
   have b122 := b121.trans (hb100.mono l88)
   have l123 := lq b84 ge18
   have b124 := b122.trans (hb108.mono l123)
   exact bodyPost_ret (res_cell2 Try.results15 rfl (h4.load (P := Try.prog) 46 Try.underlying46 rfl (by kernel_rfl)) rfl) rfl ⟨⟨A94, c95, by rw [e]; rfl, by rw [e]; exact hok, by rw [e]; exact hO4⟩, b124⟩
  refine lv (.bool false) (by exact ex_geq (by exact rfl) (by exact rfl) (by exact rfl) (decide_eq_false (by first | assumption | omega | decide))) ?_
  simp only [lay]
  refine wn ?_
  refine cF9 ?_
  refine wp_skip ?_
  change Code.wp _ _ _ _ _
  refine wp_sr ?_
  refine lv (.pointer (some ⟨g1, 3, none⟩)) (by exact xf 3 0 Try.underlying46) ?_
  simp only [lay]
  refine lv (.slice A m.bl.length c) (by exact xc Try.underlying25 (has48.cell 3 rfl)) ?_
  simp only [lay]
  have b125 := bt hb20 hb25
  have b126 := bt b125 hb36
  have l127 := lq b125 ge34
  have b128 := b126.trans (hb41.mono l127)
  have has129 := hg10.to b128
  refine lv (.agg (ends6 s t)) (by exact xo (has129.load (P := Try.prog) 31 Try.underlying31 rfl (by kernel_rfl))) ?_
  simp only [lay]
  have b130 := bt hb6 hb13
  have b131 := bt b130 hb20
  have b132 := bt b131 hb25
  have b133 := bt b132 hb36
  have l134 := lq b132 ge34
  have b135 := b133.trans (hb41.mono l134)
  have by136 := y.to b135
  refine lz (ow_call (fun v w' => (∃ u, v = .tuple #[u, .int .i64 IE] ∧ OwnB w' W38.heap.size u IL) ∧ Below W38.heap.size W38 w') (by exact xk Try.func18) ((rInside17_any _ _ _ _ _ _ hE W38 by136).mono (by rintro e w' ⟨⟨v, rfl, ho⟩, hb⟩; exact ⟨_, rfl, ⟨v, by rw [hIE], by rw [← hIL]; exact ho⟩, hb⟩)) ?_)
  rintro _ W137 ⟨⟨u139, rfl, hO140⟩, hb138⟩
  have z141 := hb138.size
  obtain ⟨A142, c143, rfl, y144⟩ := hO140.by_
  simp only [lay]
  refine lv (.tuple #[.slice A142 IL.length c143, .int .i64 IE]) (by exact xm) ?_
  simp only [lay]
  refine lv (.slice A142 IL.length c143) (by exact xe) ?_
  simp only [lay]
  refine lv (.int .i64 IE) (by exact xe) ?_
  simp only [lay]
  refine lv (.slice A142 IL.length c143) (by exact xa) ?_
  simp only [lay]
  refine lv (.int .i64 IE) (by exact xa) ?_
  simp only [lay]
  refine wn ?_
  refine wp_seq ?_
  refine wp_sr ?_
  refine lv (.int .i64 IE) (by exact xm) ?_
  simp only [lay]
  by_cases q145 : IE = 0
  case pos =>
   refine lv (.bool false) (by exact neq_int_eq (by exact rfl) (by exact rfl) (by exact rfl) (by first | assumption | omega)) ?_
   simp only [lay]
   refine wn ?_
   refine cF9 ?_
   refine wp_skip ?_
   change Code.wp _ _ _ _ _
   refine wp_seq ?_
   refine wp_sr ?_
   refine lv (.slice A142 IL.length c143) (by exact xm) ?_
   simp only [lay]
   refine lv (.int .i64 (IL.length : Int)) (by exact xz Try.underlying25) ?_
   simp only [lay]
   by_cases q146 : (IL.length : Int) > 1232
   case pos =>
    refine lv (.bool true) (by exact ex_gtr (by exact rfl) (by exact rfl) (by exact rfl) (decide_eq_true (by first | assumption | omega | decide))) ?_
    simp only [lay]
    refine wn ?_
    refine cT9 ?_
    refine wp_region_lit ?_
    refine lv (.slice A142 IL.length c143) (by exact xm) ?_
    simp only [lay]
    have y148 := (own_byS hO140)
    have y147 := y148.to_ (P := Try.prog) 25 Try.underlying25 (by kernel_rfl) (k := 1232) (by omega)
    have hO149 := hO140.take (k := 1232) (by omega)
    refine lv (.slice A142 1232 c143) (by exact ex_slice (by exact rfl) (by exact rfl) (y147.1 _)) ?_
    simp only [lay]
    refine lv (.slice A142 1232 c143) (by exact xa) ?_
    simp only [lay]
    refine wn ?_
    refine wp_sr ?_
    refine lv (.slice A142 1232 c143) (by exact xm) ?_
    simp only [lay]
    refine lv (.pointer (some ⟨g31, 3, none⟩)) (by exact xf 3 0 Try.underlying46) ?_
    simp only [lay]
    have has154 := hg39.to hb138
    refine lz (ow_st1 25 (.tmp 49) (.tmp 48) g31 3 (.slice A142 1232 c143) _ #[.int .u8 q126, .int .u8 q227, .int .u32 q328, .slice A142 1232 c143] _ rfl (by exact rfl) (by exact rfl) rfl (by kernel_rfl) has154 rfl rfl (by kernel_rfl) ?_)
    intro W150 hg151 bs152 hb153
    have z155 := hb153.size
    have own156 := hO140.but6 bs152 (by omega)
    have own157 := hO149.but6 bs152 (by omega)
    simp only [lay]
    refine wn ?_
    refine wp_sr ?_
    refine lv (.agg #[.int .u8 q126, .int .u8 q227, .int .u32 q328, .slice A142 1232 c143]) (by exact xo (hg151.load (P := Try.prog) 46 Try.underlying46 rfl (by kernel_rfl))) ?_
    simp only [lay]
    have b162 := bt hb25 hb36
    have l163 := lq hb25 ge34
    have b164 := b162.trans (hb41.mono l163)
    have b165 := bt b164 hb138
    have b166 := b165.trans (hb153.mono l163)
    have has167 := hg17.to b166
    refine lz (ow_st 46 (.tmp 4) (.tmp 50) g15 #[.int .u8 q126, .int .u8 q227, .int .u32 q328, .slice A142 1232 c143] _ _ rfl (by exact rfl) (by exact rfl) has167 (by kernel_rfl) rfl (by kernel_rfl) ?_)
    intro W158 hg159 bs160 hb161
    have z168 := hb161.size
    have own169 := own156.but6 bs160 (by omega)
    have own170 := own157.but6 bs160 (by omega)
    have has171 := hg151.but6 bs160 (by omega)
    simp only [lay]
    refine lv (.int .i64 0) (by exact xa) ?_
    simp only [lay]
    refine wn ?_
    refine wp_ret ?_
    try simp only [Exit.then]
    have e : msg17 m s t = (⟨q126, q227, q328, IL.take 1232⟩, 0) := by
     unfold msg17
     rw [if_neg (by simp [*])]
     simp only [hkk, hIE, hIL]
     repeat (first | rw [if_pos (by first | assumption | omega)] | rw [if_neg (by first | assumption | omega)])
    have hok : (⟨q126, q227, q328, IL.take 1232⟩ : D7).ok := by have := kind17_ok hR.ok (IL.take 1232); rw [hkk] at this; exact this
    have hcs : (#[.int .u8 q126, .int .u8 q227, .int .u32 q328, .slice A142 1232 c143] : Array Value) = (⟨q126, q227, q328, IL.take 1232⟩ : D7).cells A142 c143 := by
     show _ = (#[.int .u8 q126, .int .u8 q227, .int .u32 q328, .slice A142 (IL.take 1232).length c143] : Array Value)
     rw [← own_len own170]
    have h4 := hg159
    rw [hcs] at h4
    have hO4 := own_norm (own170.more b135.size)
    have b172 := bt b135 hb138
    have b173 := b172.trans (hb153.mono l134)
    have l174 := lq b130 ge18
    have b175 := b173.trans (hb161.mono l174)
    exact bodyPost_ret (res_cell2 Try.results15 rfl (h4.load (P := Try.prog) 46 Try.underlying46 rfl (by kernel_rfl)) rfl) rfl ⟨⟨A142, c143, by rw [e]; rfl, by rw [e]; exact hok, by rw [e]; exact hO4⟩, b175⟩
   refine lv (.bool false) (by exact ex_gtr (by exact rfl) (by exact rfl) (by exact rfl) (decide_eq_false (by first | assumption | omega | decide))) ?_
   simp only [lay]
   refine wn ?_
   refine cF9 ?_
   refine wp_skip ?_
   change Code.wp _ _ _ _ _
   refine wp_sr ?_
   refine lv (.slice A142 IL.length c143) (by exact xm) ?_
   simp only [lay]
   refine lv (.pointer (some ⟨g31, 3, none⟩)) (by exact xf 3 0 Try.underlying46) ?_
   simp only [lay]
   have has180 := hg39.to hb138
   refine lz (ow_st1 25 (.tmp 49) (.tmp 48) g31 3 (.slice A142 IL.length c143) _ #[.int .u8 q126, .int .u8 q227, .int .u32 q328, .slice A142 IL.length c143] _ rfl (by exact rfl) (by exact rfl) rfl (by kernel_rfl) has180 rfl rfl (by kernel_rfl) ?_)
   intro W176 hg177 bs178 hb179
   have z181 := hb179.size
   have own182 := hO140.but6 bs178 (by omega)
   simp only [lay]
   refine wn ?_
   refine wp_sr ?_
   refine lv (.agg #[.int .u8 q126, .int .u8 q227, .int .u32 q328, .slice A142 IL.length c143]) (by exact xo (hg177.load (P := Try.prog) 46 Try.underlying46 rfl (by kernel_rfl))) ?_
   simp only [lay]
   have b187 := bt hb25 hb36
   have l188 := lq hb25 ge34
   have b189 := b187.trans (hb41.mono l188)
   have b190 := bt b189 hb138
   have b191 := b190.trans (hb179.mono l188)
   have has192 := hg17.to b191
   refine lz (ow_st 46 (.tmp 4) (.tmp 50) g15 #[.int .u8 q126, .int .u8 q227, .int .u32 q328, .slice A142 IL.length c143] _ _ rfl (by exact rfl) (by exact rfl) has192 (by kernel_rfl) rfl (by kernel_rfl) ?_)
   intro W183 hg184 bs185 hb186
   have z193 := hb186.size
   have own194 := own182.but6 bs185 (by omega)
   have has195 := hg177.but6 bs185 (by omega)
   simp only [lay]
   refine lv (.int .i64 0) (by exact xa) ?_
   simp only [lay]
   refine wn ?_
   refine wp_ret ?_
   try simp only [Exit.then]
   have e : msg17 m s t = (⟨q126, q227, q328, IL⟩, 0) := by
    unfold msg17
    rw [if_neg (by simp [*])]
    simp only [hkk, hIE, hIL]
    repeat (first | rw [if_pos (by first | assumption | omega)] | rw [if_neg (by first | assumption | omega)])
    rw [List.take_of_length_le (show IL.length ≤ 1232 from by omega)]
   have hok : (⟨q126, q227, q328, IL⟩ : D7).ok := by have := kind17_ok hR.ok (IL); rw [hkk] at this; exact this
   have hcs : (#[.int .u8 q126, .int .u8 q227, .int .u32 q328, .slice A142 IL.length c143] : Array Value) = (⟨q126, q227, q328, IL⟩ : D7).cells A142 c143 := by
    show _ = (#[.int .u8 q126, .int .u8 q227, .int .u32 q328, .slice A142 (IL).length c143] : Array Value)
    rw [← own_len own194]
   have h4 := hg184
   rw [hcs] at h4
   have hO4 := own_norm (own194.more b135.size)
   have b196 := bt b135 hb138
   have b197 := b196.trans (hb179.mono l134)
   have l198 := lq b130 ge18
   have b199 := b197.trans (hb186.mono l198)
   exact bodyPost_ret (res_cell2 Try.results15 rfl (h4.load (P := Try.prog) 46 Try.underlying46 rfl (by kernel_rfl)) rfl) rfl ⟨⟨A142, c143, by rw [e]; rfl, by rw [e]; exact hok, by rw [e]; exact hO4⟩, b199⟩
  refine lv (.bool true) (by exact neq_int_ne (by exact rfl) (by exact rfl) (by exact rfl) (by first | assumption | omega)) ?_
  simp only [lay]
  refine wn ?_
  refine cT9 ?_
  refine wp_sr ?_
  refine lv (.agg #[.int .u8 0, .int .u8 0, .int .u32 0, .slice none 0 0]) (by kernel_rfl) ?_
  simp only [lay]
  refine lv (.int .i64 IE) (by exact xm) ?_
  simp only [lay]
  have b204 := bt hb25 hb36
  have l205 := lq hb25 ge34
  have b206 := b204.trans (hb41.mono l205)
  have b207 := bt b206 hb138
  have has208 := hg17.to b207
  refine lz (ow_st 46 (.tmp 4) (.tmp 41) g15 #[.int .u8 0, .int .u8 0, .int .u32 0, .slice none 0 0] _ _ rfl (by exact rfl) (by exact rfl) has208 (by kernel_rfl) rfl (by kernel_rfl) ?_)
  intro W200 hg201 bs202 hb203
  have has209 := hg39.to hb138
  have z210 := hb203.size
  have has211 := has209.but6 bs202 (by omega)
  have own212 := hO140.but6 bs202 (by omega)
  simp only [lay]
  refine lv (.int .i64 IE) (by exact xa) ?_
  simp only [lay]
  refine wn ?_
  refine wp_ret ?_
  try simp only [Exit.then]
  have e : msg17 m s t = (zero7, IE) := by
   unfold msg17
   rw [if_neg (by simp [*])]
   simp only [hkk, hIE, hIL]
   repeat (first | rw [if_pos (by first | assumption | omega)] | rw [if_neg (by first | assumption | omega)])
  have b213 := bt b135 hb138
  have l214 := lq b130 ge18
  have b215 := b213.trans (hb203.mono l214)
  exact bodyPost_ret (res_cell2 Try.results15 rfl (hg201.load (P := Try.prog) 46 Try.underlying46 rfl (by kernel_rfl)) rfl) rfl ⟨⟨none, 0, by rw [e]; rfl, by rw [e]; exact zero7_ok, by rw [e]; exact OwnB.nil _ _⟩, b215⟩
 replace q43 := eq_false_of_ne_true q43
 rw [q43]
 refine lv (.bool true) (by exact ex_not (b := false) (by exact rfl) (by exact rfl)) ?_
 simp only [lay]
 refine wn ?_
 refine cT9 ?_
 refine wp_sr ?_
 refine lv (.agg #[.int .u8 0, .int .u8 0, .int .u32 0, .slice none 0 0]) (by kernel_rfl) ?_
 simp only [lay]
 have b220 := bt hb25 hb36
 have l221 := lq hb25 ge34
 have b222 := b220.trans (hb41.mono l221)
 have has223 := hg17.to b222
 refine lz (ow_st 46 (.tmp 4) (.tmp 17) g15 #[.int .u8 0, .int .u8 0, .int .u32 0, .slice none 0 0] _ _ rfl (by exact rfl) (by exact rfl) has223 (by kernel_rfl) rfl (by kernel_rfl) ?_)
 intro W216 hg217 bs218 hb219
 have z224 := hb219.size
 have has225 := hg39.but6 bs218 (by omega)
 simp only [lay]
 refine lv (.int .i64 175) (by exact xa) ?_
 simp only [lay]
 refine wn ?_
 refine wp_ret ?_
 try simp only [Exit.then]
 have e : msg17 m s t = (zero7, 175) := by
  unfold msg17
  rw [if_pos (by assumption)]
 have b226 := bt hb6 hb13
 have b227 := bt b226 hb20
 have b228 := bt b227 hb25
 have b229 := bt b228 hb36
 have l230 := lq b228 ge34
 have b231 := b229.trans (hb41.mono l230)
 have l232 := lq b226 ge18
 have b233 := b231.trans (hb219.mono l232)
 exact bodyPost_ret (res_cell2 Try.results15 rfl (hg217.load (P := Try.prog) 46 Try.underlying46 rfl (by kernel_rfl)) rfl) rfl ⟨⟨none, 0, by rw [e]; rfl, by rw [e]; exact zero7_ok, by rw [e]; exact OwnB.nil _ _⟩, b233⟩
set_option maxRecDepth 100000 in
set_option maxHeartbeats 8000000 in
theorem ricmp17_any (d : D4) (p : W4) (s t s' t' : List Int) (hE : E6ok s t) (hE' : E6ok s' t') (w : World) (hR : Rd4 w.heap.size w d p) :
  Calls Try.prog 46 #[.agg (d.cells p), .agg (ends6 s t), .agg (ends6 s' t')] w fun e w' => TwoR (icmp17 d s t s' t') w.heap.size w' e ∧ Below w.heap.size w w' := by
 obtain ⟨M, hM⟩ : ∃ x, parse7 d.bl [] = x := ⟨_, rfl⟩
 obtain ⟨PE, hPE⟩ : ∃ x, perr7 d.bl [] = x := ⟨_, rfl⟩
 obtain ⟨MR, hMR⟩ : ∃ x, (msg17 M s' t').1 = x := ⟨_, rfl⟩
 obtain ⟨ME, hME⟩ : ∃ x, (msg17 M s' t').2 = x := ⟨_, rfl⟩
 have yo := hR.opt
 have yb := hR.body
 go_enter Try.func46, Try.ntmps46
 refine wp_sr ?_
 refine lz (ow_box 27 (.tmp 0) _ rfl rfl ?_)
 intro g1 W2 hg3 ge4 sz5 hb6
 have z7 := hb6.size
 simp only [lay]
 refine lz (ow_box 31 (.tmp 1) _ rfl rfl ?_)
 intro g8 W9 hg10 ge11 sz12 hb13
 have z14 := hb13.size
 simp only [lay]
 refine lz (ow_box 31 (.tmp 2) _ rfl rfl ?_)
 intro g15 W16 hg17 ge18 sz19 hb20
 have z21 := hb20.size
 simp only [lay]
 refine lv (.slice none 0 0) (by exact xa) ?_
 simp only [lay]
 refine lv (.int .i64 0) (by exact xa) ?_
 simp only [lay]
 refine wn ?_
 refine wp_seq ?_
 refine wp_sr ?_
 refine lv (.pointer (some ⟨g1, 3, none⟩)) (by exact xf 3 0 Try.underlying27) ?_
 simp only [lay]
 have b22 := bt hb13 hb20
 have has23 := hg3.to b22
 refine lv (.bool d.mf) (by exact xc Try.underlying4 (has23.cell 3 rfl)) ?_
 simp only [lay]
 refine lv (.bool d.mf) (by exact xm) ?_
 simp only [lay]
 by_cases q24 : d.mf = true
 case pos =>
  rw [q24]
  refine lzn ?_
  simp only [lay]
  refine lzn ?_
  simp only [lay]
  refine lzn ?_
  simp only [lay]
  refine lv (.bool true) (by exact xp (b := true)) ?_
  simp only [lay]
  refine wn ?_
  refine cT9 ?_
  refine wp_sr ?_
  refine lv (.slice none 0 0) (by exact xa) ?_
  simp only [lay]
  refine lv (.int .i64 174) (by exact xa) ?_
  simp only [lay]
  refine wn ?_
  refine wp_ret ?_
  try simp only [Exit.then]
  have qp : d.part = true := by unfold D4.part; simp [*]; try omega
  have e : icmp17 d s t s' t' = ([], 174) := by
   unfold icmp17
   simp only [hM, hPE, hMR, hME]
   repeat (first | rw [if_pos (by first | assumption | omega | exact ne_true_of_eq_false (by assumption))] | rw [if_neg (by first | assumption | omega | exact ne_true_of_eq_false (by assumption))])
  have b25 := bt hb6 hb13
  have b26 := bt b25 hb20
  exact bodyPost_ret (res_tt Try.results46 rfl rfl) rfl ⟨TwoR.ok e (OwnB.nil _ _), b26⟩
 replace q24 := eq_false_of_ne_true q24
 rw [q24]
 refine lv (.pointer (some ⟨g1, 4, none⟩)) (by exact xf 4 0 Try.underlying27) ?_
 simp only [lay]
 refine lv (.int .i64 d.off) (by exact xc Try.underlying3 (has23.cell 4 rfl)) ?_
 simp only [lay]
 by_cases q27 : d.off > 0
 case pos =>
  refine lv (.bool true) (by exact ex_gtr (by exact rfl) (by exact rfl) (by exact rfl) (decide_eq_true (by first | assumption | omega | decide))) ?_
  simp only [lay]
  refine lv (.bool true) (by exact xp (b := false)) ?_
  simp only [lay]
  refine wn ?_
  refine cT9 ?_
  refine wp_sr ?_
  refine lv (.slice none 0 0) (by exact xa) ?_
  simp only [lay]
  refine lv (.int .i64 174) (by exact xa) ?_
  simp only [lay]
  refine wn ?_
  refine wp_ret ?_
  try simp only [Exit.then]
  have qp : d.part = true := by unfold D4.part; simp [*]; try omega
  have e : icmp17 d s t s' t' = ([], 174) := by
   unfold icmp17
   simp only [hM, hPE, hMR, hME]
   repeat (first | rw [if_pos (by first | assumption | omega | exact ne_true_of_eq_false (by assumption))] | rw [if_neg (by first | assumption | omega | exact ne_true_of_eq_false (by assumption))])
  have b28 := bt hb6 hb13
  have b29 := bt b28 hb20
  exact bodyPost_ret (res_tt Try.results46 rfl rfl) rfl ⟨TwoR.ok e (OwnB.nil _ _), b29⟩
 refine lv (.bool false) (by exact ex_gtr (by exact rfl) (by exact rfl) (by exact rfl) (decide_eq_false (by first | assumption | omega | decide))) ?_
 simp only [lay]
 refine lv (.bool false) (by exact xp (b := false)) ?_
 simp only [lay]
 refine wn ?_
 refine cF9 ?_
 refine wp_skip ?_
 change Code.wp _ _ _ _ _
 refine wp_sr ?_
 refine lv (.pointer (some ⟨g1, 16, none⟩)) (by exact xf 16 0 Try.underlying27) ?_
 simp only [lay]
 refine lv (.slice p.bA d.bl.length p.bc) (by exact xc Try.underlying25 (has23.cell 16 rfl)) ?_
 simp only [lay]
 have b30 := bt hb6 hb13
 have b31 := bt b30 hb20
 have by32 := yb.to b31
 refine lz (ow_call (fun v w' => (∃ A' c', v = .tuple #[.agg (M.cells A' c'), .int .i64 PE] ∧ M.ok ∧ OwnB w' W16.heap.size (.slice A' M.bl.length c') M.bl) ∧ Below W16.heap.size W16 w') (by exact xk Try.func21) ((rparse4m_any _ _ _ _ W16 by32).mono (by rintro e w' ⟨⟨A', c', rfl, hk, ho⟩, hb⟩; rw [hM] at hk ho; exact ⟨_, rfl, ⟨A', c', by rw [hM, hPE], hk, ho⟩, hb⟩)) ?_)
 rintro _ W33 ⟨⟨A35, c36, rfl, hk37, hO38⟩, hb34⟩
 have z39 := hb34.size
 simp only [lay]
 refine lv (.tuple #[.agg (M.cells A35 c36), .int .i64 PE]) (by exact xm) ?_
 simp only [lay]
 refine lv (.agg (M.cells A35 c36)) (by exact xe) ?_
 simp only [lay]
 refine lv (.int .i64 PE) (by exact xe) ?_
 simp only [lay]
 refine lz (oa #[.int .u8 0, .int .u8 0, .int .u32 0, .slice none 0 0] ?_)
 intro g40 W41 hg42 ge43 sz44 hb45
 have z46 := hb45.size
 simp only [lay]
 refine lz (ow_st 46 (.tmp 8) (.tmp 23) g40 (M.cells A35 c36) _ _ rfl (by exact rfl) (by exact rfl) hg42 (by kernel_rfl) rfl (by kernel_rfl) ?_)
 intro W47 hg48 bs49 hb50
 have z51 := hb50.size
 simp only [lay]
 refine lv (.int .i64 PE) (by exact xa) ?_
 simp only [lay]
 refine wn ?_
 refine wp_seq ?_
 refine wp_sr ?_
 refine lv (.int .i64 PE) (by exact xm) ?_
 simp only [lay]
 by_cases q52 : PE = 0
 case pos =>
  refine lv (.bool false) (by exact neq_int_eq (by exact rfl) (by exact rfl) (by exact rfl) (by first | assumption | omega)) ?_
  simp only [lay]
  refine wn ?_
  refine cF9 ?_
  refine wp_skip ?_
  change Code.wp _ _ _ _ _
  refine wp_sr ?_
  refine lv (.agg (M.cells A35 c36)) (by exact xo (hg48.load (P := Try.prog) 46 Try.underlying46 rfl (by kernel_rfl))) ?_
  simp only [lay]
  have b53 := bt hb34 hb45
  have l54 := lq hb34 ge43
  have b55 := b53.trans (hb50.mono l54)
  have has56 := hg17.to b55
  refine lv (.agg (ends6 s' t')) (by exact xo (has56.load (P := Try.prog) 31 Try.underlying31 rfl (by kernel_rfl))) ?_
  simp only [lay]
  have l57 : W33.heap.size ≤ g40 := Nat.le_of_eq ge43.symm
  have b58 := hb45.trans (hb50.mono l57)
  have own59 := hO38.to b58
  refine lz (ow_call (fun v w' => (∃ A' c', v = .tuple #[.agg (MR.cells A' c'), .int .i64 ME] ∧ MR.ok ∧ OwnB w' W47.heap.size (.slice A' MR.bl.length c') MR.bl) ∧ Below W47.heap.size W47 w') (by exact xk Try.func15) ((rmsg17_any M _ _ s' t' hE' W47 ⟨hk37, (own_byS own59)⟩).mono (by rintro e w' ⟨⟨A, c, rfl, hk, ho⟩, hb⟩; rw [hMR] at hk ho; exact ⟨_, rfl, ⟨A, c, by rw [hMR, hME], hk, ho⟩, hb⟩)) ?_)
  rintro _ W60 ⟨⟨A62, c63, rfl, hk64, hO65⟩, hb61⟩
  have z66 := hb61.size
  simp only [lay]
  refine lv (.tuple #[.agg (MR.cells A62 c63), .int .i64 ME]) (by exact xm) ?_
  simp only [lay]
  refine lv (.agg (MR.cells A62 c63)) (by exact xe) ?_
  simp only [lay]
  refine lv (.int .i64 ME) (by exact xe) ?_
  simp only [lay]
  refine lz (oa #[.int .u8 0, .int .u8 0, .int .u32 0, .slice none 0 0] ?_)
  intro g67 W68 hg69 ge70 sz71 hb72
  have z73 := hb72.size
  simp only [lay]
  refine lz (ow_st 46 (.tmp 10) (.tmp 32) g67 (MR.cells A62 c63) _ _ rfl (by exact rfl) (by exact rfl) hg69 (by kernel_rfl) rfl (by kernel_rfl) ?_)
  intro W74 hg75 bs76 hb77
  have z78 := hb77.size
  simp only [lay]
  refine lv (.int .i64 ME) (by exact xa) ?_
  simp only [lay]
  refine wn ?_
  refine wp_seq ?_
  refine wp_sr ?_
  refine lv (.int .i64 ME) (by exact xm) ?_
  simp only [lay]
  by_cases q79 : ME = 0
  case pos =>
   have herr : MR.err = 0 := by rw [D7.err, if_neg (by have := msg17_len (hME.trans q79); rw [hMR] at this; omega)]
   refine lv (.bool false) (by exact neq_int_eq (by exact rfl) (by exact rfl) (by exact rfl) (by first | assumption | omega)) ?_
   simp only [lay]
   refine wn ?_
   refine cF9 ?_
   refine wp_skip ?_
   change Code.wp _ _ _ _ _
   refine wp_sr ?_
   refine lv (.pointer (some ⟨g8, 0, none⟩)) (by exact xf 0 15 Try.underlying31) ?_
   simp only [lay]
   have b80 := bt hb20 hb34
   have b81 := bt b80 hb45
   have l82 := lq b80 ge43
   have b83 := b81.trans (hb50.mono l82)
   have b84 := bt b83 hb61
   have b85 := bt b84 hb72
   have l86 := lq b84 ge70
   have b87 := b85.trans (hb77.mono l86)
   have has88 := hg10.to b87
   refine lv (.agg (a16 s)) (by exact ex_loadAt (by exact rfl) (by exact rfl) (has88.loadIn (P := Try.prog) 0 (w16 s) (by kernel_rfl) 29 Try.underlying29 rfl (by kernel_rfl))) ?_
   simp only [lay]
   refine lv (.pointer (some ⟨g8, 16, none⟩)) (by exact xf 16 15 Try.underlying31) ?_
   simp only [lay]
   refine lv (.agg (a16 t)) (by exact ex_loadAt (by exact rfl) (by exact rfl) (has88.loadIn (P := Try.prog) 16 (w16 t) (by kernel_rfl) 29 Try.underlying29 rfl (by kernel_rfl))) ?_
   simp only [lay]
   refine lv (.agg (MR.cells A62 c63)) (by exact xo (hg75.load (P := Try.prog) 46 Try.underlying46 rfl (by kernel_rfl))) ?_
   simp only [lay]
   have l89 : W60.heap.size ≤ g67 := Nat.le_of_eq ge70.symm
   have b90 := hb72.trans (hb77.mono l89)
   have own91 := hO65.to b90
   refine lz (ow_call (fun v w' => (∃ u, v = .tuple #[u, .int .i64 0] ∧ OwnB w' W74.heap.size u (MR.write (pse6 s t (8 + MR.bl.length) 58))) ∧ Below W74.heap.size W74 w') (by exact xk Try.func79) ((rwrite6m_any s t hE MR _ _ W74 ⟨hk64, (own_byS own91)⟩).mono (by rintro e w' ⟨⟨v, rfl, ho⟩, hb⟩; exact ⟨_, rfl, ⟨v, by rw [herr], ho⟩, hb⟩)) ?_)
   rintro _ W92 ⟨⟨u94, rfl, hO95⟩, hb93⟩
   have z96 := hb93.size
   obtain ⟨A97, c98, rfl, y99⟩ := hO95.by_
   simp only [lay]
   refine lv (.slice A97 ((MR.write (pse6 s t (8 + MR.bl.length) 58)).length) c98) (by exact xe) ?_
   simp only [lay]
   refine lv (.int .i64 0) (by exact xe) ?_
   simp only [lay]
   refine lv (.slice A97 ((MR.write (pse6 s t (8 + MR.bl.length) 58)).length) c98) (by exact xa) ?_
   simp only [lay]
   refine lv (.int .i64 0) (by exact xa) ?_
   simp only [lay]
   refine wn ?_
   refine wp_ret ?_
   try simp only [Exit.then]
   have b100 := bt b31 hb34
   have b101 := bt b100 hb45
   have l102 := lq b100 ge43
   have b103 := b101.trans (hb50.mono l102)
   have b104 := bt b103 hb61
   have b105 := bt b104 hb72
   have l106 := lq b104 ge70
   have b107 := b105.trans (hb77.mono l106)
   have qp : d.part = false := by unfold D4.part; simp [*]; try omega
   have e : icmp17 d s t s' t' = (MR.write (pse6 s t (8 + MR.bl.length) 58), 0) := by
    unfold icmp17
    simp only [hM, hPE, hMR, hME]
    repeat (first | rw [if_pos (by first | assumption | omega | exact ne_true_of_eq_false (by assumption))] | rw [if_neg (by first | assumption | omega | exact ne_true_of_eq_false (by assumption))])
   have b108 := bt b107 hb93
   exact bodyPost_ret (res_tt Try.results46 rfl rfl) rfl ⟨TwoR.ok e (hO95.more b107.size), b108⟩
  refine lv (.bool true) (by exact neq_int_ne (by exact rfl) (by exact rfl) (by exact rfl) (by first | assumption | omega)) ?_
  simp only [lay]
  refine wn ?_
  refine cT9 ?_
  refine wp_sr ?_
  refine lv (.int .i64 ME) (by exact xm) ?_
  simp only [lay]
  refine lv (.slice none 0 0) (by exact xa) ?_
  simp only [lay]
  refine lv (.int .i64 ME) (by exact xa) ?_
  simp only [lay]
  refine wn ?_
  refine wp_ret ?_
  try simp only [Exit.then]
  have qp : d.part = false := by unfold D4.part; simp [*]; try omega
  have e : icmp17 d s t s' t' = ([], ME) := by
   unfold icmp17
   simp only [hM, hPE, hMR, hME]
   repeat (first | rw [if_pos (by first | assumption | omega | exact ne_true_of_eq_false (by assumption))] | rw [if_neg (by first | assumption | omega | exact ne_true_of_eq_false (by assumption))])
  have b109 := bt b31 hb34
  have b110 := bt b109 hb45
  have l111 := lq b109 ge43
  have b112 := b110.trans (hb50.mono l111)
  have b113 := bt b112 hb61
  have b114 := bt b113 hb72
  have l115 := lq b113 ge70
  have b116 := b114.trans (hb77.mono l115)
  exact bodyPost_ret (res_tt Try.results46 rfl rfl) rfl ⟨TwoR.ok e (OwnB.nil _ _), b116⟩
 refine lv (.bool true) (by exact neq_int_ne (by exact rfl) (by exact rfl) (by exact rfl) (by first | assumption | omega)) ?_
 simp only [lay]
 refine wn ?_
 refine cT9 ?_
 refine wp_sr ?_
 refine lv (.int .i64 PE) (by exact xm) ?_
 simp only [lay]
 refine lv (.slice none 0 0) (by exact xa) ?_
 simp only [lay]
 refine lv (.int .i64 PE) (by exact xa) ?_
 simp only [lay]
 refine wn ?_
 refine wp_ret ?_
 try simp only [Exit.then]
 have qp : d.part = false := by unfold D4.part; simp [*]; try omega
 have e : icmp17 d s t s' t' = ([], PE) := by
  unfold icmp17
  simp only [hM, hPE, hMR, hME]
  repeat (first | rw [if_pos (by first | assumption | omega | exact ne_true_of_eq_false (by assumption))] | rw [if_neg (by first | assumption | omega | exact ne_true_of_eq_false (by assumption))])
 have b117 := bt b31 hb34
 have b118 := bt b117 hb45
 have l119 := lq b117 ge43
 have b120 := b118.trans (hb50.mono l119)
 exact bodyPost_ret (res_tt Try.results46 rfl rfl) rfl ⟨TwoR.ok e (OwnB.nil _ _), b120⟩
set_option maxRecDepth 100000 in
set_option maxHeartbeats 8000000 in
theorem rpack17_any (d : D4) (p : W4) (s t s' t' : List Int) (hE : E6ok s t) (hE' : E6ok s' t') (w : World) (hR : Rd4 w.heap.size w d p) :
  Calls Try.prog 11 #[.agg (d.cells p), .agg (ends6 s t), .agg (ends6 s' t')] w fun e w' => ToldP17 (pack17 d s t s' t') w.heap.size w' e ∧ Below w.heap.size w w' := by
 obtain ⟨AL, hAL⟩ : ∃ x, (any17 d s t s' t').1 = x := ⟨_, rfl⟩
 obtain ⟨AE, hAE⟩ : ∃ x, (any17 d s t s' t').2 = x := ⟨_, rfl⟩
 have yo := hR.opt
 have yb := hR.body
 go_enter Try.func11, Try.ntmps11
 refine wp_sr ?_
 refine lz (ow_box 27 (.tmp 0) _ rfl rfl ?_)
 intro g1 W2 hg3 ge4 sz5 hb6
 have z7 := hb6.size
 simp only [lay]
 refine lz (ow_box 31 (.tmp 1) _ rfl rfl ?_)
 intro g8 W9 hg10 ge11 sz12 hb13
 have z14 := hb13.size
 simp only [lay]
 refine lz (ow_box 31 (.tmp 2) _ rfl rfl ?_)
 intro g15 W16 hg17 ge18 sz19 hb20
 have z21 := hb20.size
 simp only [lay]
 refine lz (oa #[.int .u8 0, .int .u32 0, .int .u8 0, .int .u8 0, .int .u8 0, .int .u8 0, .int .u8 0, .int .u8 0, .int .u8 0, .int .u8 0, .int .u8 0, .int .u8 0, .int .u8 0, .int .u8 0, .int .u8 0, .int .u8 0, .int .u8 0, .int .u8 0, .int .u8 0, .int .u8 0, .int .u8 0, .int .u8 0, .int .u8 0, .int .u8 0, .int .u8 0, .int .u8 0, .int .u8 0, .int .u8 0, .int .u8 0, .int .u8 0, .int .u8 0, .int .u8 0, .int .u8 0, .int .u8 0, .int .u8 0, .slice none 0 0, .bool false, .int .u32 0, .int .i64 0, .bool false, .int .u8 0, .slice none 0 0] ?_)
 intro g22 W23 hg24 ge25 sz26 hb27
 have z28 := hb27.size
 simp only [lay]
 refine lv (.int .i64 0) (by exact xa) ?_
 simp only [lay]
 refine wn ?_
 refine wp_sr ?_
 have b29 := bt hb13 hb20
 have b30 := bt b29 hb27
 have has31 := hg3.to b30
 refine lv (.agg (d.cells p)) (by exact xo (has31.load (P := Try.prog) 27 Try.underlying27 rfl (by kernel_rfl))) ?_
 simp only [lay]
 have b32 := bt hb6 hb13
 have b33 := bt b32 hb20
 have b34 := bt b33 hb27
 have rd35 := hR.to b34
 refine lz (ow_call (fun v w' => v = .int .i64 d.check ∧ Below W23.heap.size W23 w') (by exact xk Try.func25) (rcheck_x rd35) ?_)
 rintro _ W36 ⟨rfl, hb37⟩
 have z38 := hb37.size
 simp only [lay]
 refine lv (.int .i64 d.check) (by exact xa) ?_
 simp only [lay]
 refine wn ?_
 refine wp_seq ?_
 refine wp_sr ?_
 refine lv (.int .i64 d.check) (by exact xm) ?_
 simp only [lay]
 by_cases q39 : d.check = 0
 case pos =>
  obtain ⟨hof, hol, -, hbl⟩ := D4.ok_of_check q39
  refine lv (.bool false) (by exact neq_int_eq (by exact rfl) (by exact rfl) (by exact rfl) (by first | assumption | omega)) ?_
  simp only [lay]
  refine wn ?_
  refine cF9 ?_
  refine wp_skip ?_
  change Code.wp _ _ _ _ _
  refine wp_seq ?_
  refine wp_sr ?_
  refine lv (.pointer (some ⟨g1, 15, none⟩)) (by exact xf 15 0 Try.underlying27) ?_
  simp only [lay]
  have b40 := bt b30 hb37
  have has41 := hg3.to b40
  refine lv (.slice p.oA d.ol.length p.oc) (by exact xc Try.underlying25 (has41.cell 15 rfl)) ?_
  simp only [lay]
  have b42 := bt b34 hb37
  have by43 := yo.to b42
  refine lz (ow_call (fun v w' => v = .bool (routOf d.ol) ∧ Below W36.heap.size W36 w') (by exact xk Try.func44) (rrouted_x by43 (by omega)) ?_)
  rintro _ W44 ⟨rfl, hb45⟩
  have z46 := hb45.size
  simp only [lay]
  refine wn ?_
  by_cases q47 : routOf d.ol = true
  case pos =>
   rw [q47]
   refine cT9 ?_
   refine wp_sr ?_
   refine lv (.agg #[.int .u8 0, .int .u32 0, .int .u8 0, .int .u8 0, .int .u8 0, .int .u8 0, .int .u8 0, .int .u8 0, .int .u8 0, .int .u8 0, .int .u8 0, .int .u8 0, .int .u8 0, .int .u8 0, .int .u8 0, .int .u8 0, .int .u8 0, .int .u8 0, .int .u8 0, .int .u8 0, .int .u8 0, .int .u8 0, .int .u8 0, .int .u8 0, .int .u8 0, .int .u8 0, .int .u8 0, .int .u8 0, .int .u8 0, .int .u8 0, .int .u8 0, .int .u8 0, .int .u8 0, .int .u8 0, .int .u8 0, .slice none 0 0, .bool false, .int .u32 0, .int .i64 0, .bool false, .int .u8 0, .slice none 0 0]) (by kernel_rfl) ?_
   simp only [lay]
   have b52 := bt hb37 hb45
   have has53 := hg24.to b52
   refine lz (ow_st 36 (.tmp 6) (.tmp 21) g22 #[.int .u8 0, .int .u32 0, .int .u8 0, .int .u8 0, .int .u8 0, .int .u8 0, .int .u8 0, .int .u8 0, .int .u8 0, .int .u8 0, .int .u8 0, .int .u8 0, .int .u8 0, .int .u8 0, .int .u8 0, .int .u8 0, .int .u8 0, .int .u8 0, .int .u8 0, .int .u8 0, .int .u8 0, .int .u8 0, .int .u8 0, .int .u8 0, .int .u8 0, .int .u8 0, .int .u8 0, .int .u8 0, .int .u8 0, .int .u8 0, .int .u8 0, .int .u8 0, .int .u8 0, .int .u8 0, .int .u8 0, .slice none 0 0, .bool false, .int .u32 0, .int .i64 0, .bool false, .int .u8 0, .slice none 0 0] _ _ rfl (by exact rfl) (by exact rfl) has53 (by kernel_rfl) rfl (by kernel_rfl) ?_)
   intro W48 hg49 bs50 hb51
   have z54 := hb51.size
   simp only [lay]
   refine lv (.int .i64 170) (by exact xa) ?_
   simp only [lay]
   refine wn ?_
   refine wp_ret ?_
   try simp only [Exit.then]
   have e : pack17 d s t s' t' = (zero6, 170) := by
    unfold pack17
    simp only [hAL, hAE]
    repeat (first | rw [if_pos (by first | assumption | omega | exact ne_true_of_eq_false (by assumption))] | rw [if_neg (by first | assumption | omega | exact ne_true_of_eq_false (by assumption))])
   have b55 := bt b42 hb45
   have l56 := lq b33 ge25
   have b57 := b55.trans (hb51.mono l56)
   exact bodyPost_ret (res_cell2 Try.results11 rfl (hg49.load (P := Try.prog) 36 Try.underlying36 rfl (by kernel_rfl)) rfl) rfl ⟨⟨pZ6, by rw [e]; rfl, by rw [e]; exact own6_zero _ _⟩, b57⟩
  replace q47 := eq_false_of_ne_true q47
  rw [q47]
  refine cF9 ?_
  refine wp_skip ?_
  change Code.wp _ _ _ _ _
  refine wp_seq ?_
  refine wp_sr ?_
  refine lv (.pointer (some ⟨g1, 6, none⟩)) (by exact xf 6 0 Try.underlying27) ?_
  simp only [lay]
  have b58 := bt b40 hb45
  have has59 := hg3.to b58
  refine lv (.int .u8 d.proto) (by exact xc Try.underlying5 (has59.cell 6 rfl)) ?_
  simp only [lay]
  refine lz (ow_same (.bool (wrong17 d.proto)) (by exact xk Try.func45) (rwrong17_any d.proto W44) ?_)
  simp only [lay]
  refine wn ?_
  by_cases q60 : wrong17 d.proto = true
  case pos =>
   rw [q60]
   refine cT9 ?_
   refine wp_sr ?_
   refine lv (.agg #[.int .u8 0, .int .u32 0, .int .u8 0, .int .u8 0, .int .u8 0, .int .u8 0, .int .u8 0, .int .u8 0, .int .u8 0, .int .u8 0, .int .u8 0, .int .u8 0, .int .u8 0, .int .u8 0, .int .u8 0, .int .u8 0, .int .u8 0, .int .u8 0, .int .u8 0, .int .u8 0, .int .u8 0, .int .u8 0, .int .u8 0, .int .u8 0, .int .u8 0, .int .u8 0, .int .u8 0, .int .u8 0, .int .u8 0, .int .u8 0, .int .u8 0, .int .u8 0, .int .u8 0, .int .u8 0, .int .u8 0, .slice none 0 0, .bool false, .int .u32 0, .int .i64 0, .bool false, .int .u8 0, .slice none 0 0]) (by kernel_rfl) ?_
   simp only [lay]
   have b65 := bt hb37 hb45
   have has66 := hg24.to b65
   refine lz (ow_st 36 (.tmp 6) (.tmp 25) g22 #[.int .u8 0, .int .u32 0, .int .u8 0, .int .u8 0, .int .u8 0, .int .u8 0, .int .u8 0, .int .u8 0, .int .u8 0, .int .u8 0, .int .u8 0, .int .u8 0, .int .u8 0, .int .u8 0, .int .u8 0, .int .u8 0, .int .u8 0, .int .u8 0, .int .u8 0, .int .u8 0, .int .u8 0, .int .u8 0, .int .u8 0, .int .u8 0, .int .u8 0, .int .u8 0, .int .u8 0, .int .u8 0, .int .u8 0, .int .u8 0, .int .u8 0, .int .u8 0, .int .u8 0, .int .u8 0, .int .u8 0, .slice none 0 0, .bool false, .int .u32 0, .int .i64 0, .bool false, .int .u8 0, .slice none 0 0] _ _ rfl (by exact rfl) (by exact rfl) has66 (by kernel_rfl) rfl (by kernel_rfl) ?_)
   intro W61 hg62 bs63 hb64
   have z67 := hb64.size
   simp only [lay]
   refine lv (.int .i64 171) (by exact xa) ?_
   simp only [lay]
   refine wn ?_
   refine wp_ret ?_
   try simp only [Exit.then]
   have e : pack17 d s t s' t' = (zero6, 171) := by
    unfold pack17
    simp only [hAL, hAE]
    repeat (first | rw [if_pos (by first | assumption | omega | exact ne_true_of_eq_false (by assumption))] | rw [if_neg (by first | assumption | omega | exact ne_true_of_eq_false (by assumption))])
   have b68 := bt b42 hb45
   have l69 := lq b33 ge25
   have b70 := b68.trans (hb64.mono l69)
   exact bodyPost_ret (res_cell2 Try.results11 rfl (hg62.load (P := Try.prog) 36 Try.underlying36 rfl (by kernel_rfl)) rfl) rfl ⟨⟨pZ6, by rw [e]; rfl, by rw [e]; exact own6_zero _ _⟩, b70⟩
  replace q60 := eq_false_of_ne_true q60
  rw [q60]
  refine cF9 ?_
  refine wp_skip ?_
  change Code.wp _ _ _ _ _
  refine wp_sr ?_
  refine lv (.slice none 0 0) (by exact xa) ?_
  simp only [lay]
  refine wn ?_
  refine wp_sr ?_
  refine lv (.int .i64 0) (by exact xa) ?_
  simp only [lay]
  refine wn ?_
  refine wp_seq ?_
  refine wp_sr ?_
  refine lv (.pointer (some ⟨g1, 6, none⟩)) (by exact xf 6 0 Try.underlying27) ?_
  simp only [lay]
  refine lv (.int .u8 d.proto) (by exact xc Try.underlying5 (has59.cell 6 rfl)) ?_
  simp only [lay]
  by_cases q71 : d.proto = 1
  case pos =>
   refine lv (.bool true) (by exact yq) ?_
   simp only [lay]
   refine wn ?_
   refine cT9 ?_
   refine wp_region_lit ?_
   refine lv (.agg (d.cells p)) (by exact xo (has59.load (P := Try.prog) 27 Try.underlying27 rfl (by kernel_rfl))) ?_
   simp only [lay]
   have b72 := bt hb20 hb27
   have b73 := bt b72 hb37
   have b74 := bt b73 hb45
   have has75 := hg10.to b74
   refine lv (.agg (ends6 s t)) (by exact xo (has75.load (P := Try.prog) 31 Try.underlying31 rfl (by kernel_rfl))) ?_
   simp only [lay]
   have b76 := bt hb27 hb37
   have b77 := bt b76 hb45
   have has78 := hg17.to b77
   refine lv (.agg (ends6 s' t')) (by exact xo (has78.load (P := Try.prog) 31 Try.underlying31 rfl (by kernel_rfl))) ?_
   simp only [lay]
   have b79 := bt b42 hb45
   have rd80 := hR.to b79
   refine lz (ow_call (fun v w' => (∃ u, v = .tuple #[u, .int .i64 AE] ∧ OwnB w' W44.heap.size u AL) ∧ Below W44.heap.size W44 w') (by exact xk Try.func46) ((ricmp17_any d p s t s' t' hE hE' W44 rd80).mono (by rintro e w' ⟨⟨v, rfl, ho⟩, hb⟩; have ha : any17 d s t s' t' = icmp17 d s t s' t' := (by unfold any17; rw [if_pos (by assumption)]); rw [← ha, hAL] at ho; exact ⟨_, rfl, ⟨v, by rw [← ha, hAE], ho⟩, hb⟩)) ?_)
   rintro _ W81 ⟨⟨u83, rfl, hO84⟩, hb82⟩
   have z85 := hb82.size
   obtain ⟨A86, c87, rfl, y88⟩ := hO84.by_
   simp only [lay]
   refine lv (.tuple #[.slice A86 AL.length c87, .int .i64 AE]) (by exact xm) ?_
   simp only [lay]
   refine lv (.slice A86 AL.length c87) (by exact xe) ?_
   simp only [lay]
   refine lv (.int .i64 AE) (by exact xe) ?_
   simp only [lay]
   refine lv (.slice A86 AL.length c87) (by exact xa) ?_
   simp only [lay]
   refine lv (.int .i64 AE) (by exact xa) ?_
   simp only [lay]
   refine wn ?_
   refine wp_seq ?_
   refine wp_sr ?_
   refine lv (.int .i64 AE) (by exact xm) ?_
   simp only [lay]
   by_cases q89 : AE = 0
   case pos =>
    refine lv (.bool false) (by exact neq_int_eq (by exact rfl) (by exact rfl) (by exact rfl) (by first | assumption | omega)) ?_
    simp only [lay]
    refine wn ?_
    refine cF9 ?_
    refine wp_skip ?_
    change Code.wp _ _ _ _ _
    refine wp_sr ?_
    have b90 := bt b58 hb82
    have has91 := hg3.to b90
    refine lv (.agg (d.cells p)) (by exact xo (has91.load (P := Try.prog) 27 Try.underlying27 rfl (by kernel_rfl))) ?_
    simp only [lay]
    have b92 := bt b74 hb82
    have has93 := hg10.to b92
    refine lv (.agg (ends6 s t)) (by exact xo (has93.load (P := Try.prog) 31 Try.underlying31 rfl (by kernel_rfl))) ?_
    simp only [lay]
    refine lv (.slice A86 AL.length c87) (by exact xm) ?_
    simp only [lay]
    refine lz (ow_call (fun v w' => v = .agg ((head17 d s t AL).cells (pB6 A86 c87)) ∧ Below W81.heap.size W81 w') (by exact xk Try.func48) ((rheader_any d hR.ok _ s t AL A86 c87 W81).mono fun e w' h => ⟨_, h.1, rfl, h.2⟩) ?_)
    rintro _ W94 ⟨rfl, hb95⟩
    have z96 := hb95.size
    simp only [lay]
    refine lz (oa #[.int .u8 0, .int .u32 0, .int .u8 0, .int .u8 0, .int .u8 0, .int .u8 0, .int .u8 0, .int .u8 0, .int .u8 0, .int .u8 0, .int .u8 0, .int .u8 0, .int .u8 0, .int .u8 0, .int .u8 0, .int .u8 0, .int .u8 0, .int .u8 0, .int .u8 0, .int .u8 0, .int .u8 0, .int .u8 0, .int .u8 0, .int .u8 0, .int .u8 0, .int .u8 0, .int .u8 0, .int .u8 0, .int .u8 0, .int .u8 0, .int .u8 0, .int .u8 0, .int .u8 0, .int .u8 0, .int .u8 0, .slice none 0 0, .bool false, .int .u32 0, .int .i64 0, .bool false, .int .u8 0, .slice none 0 0] ?_)
    intro g97 W98 hg99 ge100 sz101 hb102
    have z103 := hb102.size
    simp only [lay]
    refine lz (ow_st 36 (.tmp 11) (.tmp 49) g97 ((head17 d s t AL).cells (pB6 A86 c87)) _ _ rfl (by exact rfl) (by exact rfl) hg99 (by kernel_rfl) rfl (by kernel_rfl) ?_)
    intro W104 hg105 bs106 hb107
    have z108 := hb107.size
    simp only [lay]
    refine wn ?_
    refine wp_seq ?_
    refine wp_sr ?_
    refine lv (.agg ((head17 d s t AL).cells (pB6 A86 c87))) (by exact xo (hg105.load (P := Try.prog) 36 Try.underlying36 rfl (by kernel_rfl))) ?_
    simp only [lay]
    have b109 := bt hb95 hb102
    have l110 := lq hb95 ge100
    have b111 := b109.trans (hb107.mono l110)
    have own112 := hO84.to b111
    refine lz (ow_call (fun v w' => v = .int .i64 ((head17 d s t AL).check) ∧ Below W104.heap.size W104 w') (by exact xk Try.func49) (rcheck6_x (head17_rd hR.ok hE (A := A86) (c := c87) (own_byS own112))) ?_)
    rintro _ W113 ⟨rfl, hb114⟩
    have z115 := hb114.size
    simp only [lay]
    by_cases q116 : (head17 d s t AL).check = 0
    case pos =>
     refine lv (.bool false) (by exact neq_int_eq (by exact rfl) (by exact rfl) (by exact rfl) (by first | assumption | omega)) ?_
     simp only [lay]
     refine wn ?_
     refine cF9 ?_
     refine wp_skip ?_
     change Code.wp _ _ _ _ _
     refine wp_sr ?_
     have has117 := hg105.to hb114
     refine lv (.agg ((head17 d s t AL).cells (pB6 A86 c87))) (by exact xo (has117.load (P := Try.prog) 36 Try.underlying36 rfl (by kernel_rfl))) ?_
     simp only [lay]
     have b122 := bt hb37 hb45
     have b123 := bt b122 hb82
     have b124 := bt b123 hb95
     have b125 := bt b124 hb102
     have l126 := lq b124 ge100
     have b127 := b125.trans (hb107.mono l126)
     have b128 := bt b127 hb114
     have has129 := hg24.to b128
     refine lz (ow_st 36 (.tmp 6) (.tmp 54) g22 ((head17 d s t AL).cells (pB6 A86 c87)) _ _ rfl (by exact rfl) (by exact rfl) has129 (by kernel_rfl) rfl (by kernel_rfl) ?_)
     intro W118 hg119 bs120 hb121
     have b130 := bt b111 hb114
     have own131 := hO84.to b130
     have z132 := hb121.size
     have own133 := own131.but6 bs120 (by omega)
     have has134 := has117.but6 bs120 (by omega)
     simp only [lay]
     refine lv (.int .i64 0) (by exact xa) ?_
     simp only [lay]
     refine wn ?_
     refine wp_ret ?_
     try simp only [Exit.then]
     have e : pack17 d s t s' t' = (head17 d s t AL, 0) := by
      unfold pack17
      simp only [hAL, hAE]
      repeat (first | rw [if_pos (by first | assumption | omega | exact ne_true_of_eq_false (by assumption))] | rw [if_neg (by first | assumption | omega | exact ne_true_of_eq_false (by assumption))])
     have b135 := bt b79 hb82
     have b136 := bt b135 hb95
     have b137 := bt b136 hb102
     have l138 := lq b136 ge100
     have b139 := b137.trans (hb107.mono l138)
     have b140 := bt b139 hb114
     have l141 := lq b33 ge25
     have b142 := b140.trans (hb121.mono l141)
     exact bodyPost_ret (res_cell2 Try.results11 rfl (hg119.load (P := Try.prog) 36 Try.underlying36 rfl (by kernel_rfl)) rfl) rfl ⟨⟨_, by rw [e]; rfl, by rw [e]; exact head17_own hR.ok hE (own133.more b79.size)⟩, b142⟩
    refine lv (.bool true) (by exact neq_int_ne (by exact rfl) (by exact rfl) (by exact rfl) (by first | assumption | omega)) ?_
    simp only [lay]
    refine wn ?_
    refine cT9 ?_
    refine wp_sr ?_
    refine lv (.agg #[.int .u8 0, .int .u32 0, .int .u8 0, .int .u8 0, .int .u8 0, .int .u8 0, .int .u8 0, .int .u8 0, .int .u8 0, .int .u8 0, .int .u8 0, .int .u8 0, .int .u8 0, .int .u8 0, .int .u8 0, .int .u8 0, .int .u8 0, .int .u8 0, .int .u8 0, .int .u8 0, .int .u8 0, .int .u8 0, .int .u8 0, .int .u8 0, .int .u8 0, .int .u8 0, .int .u8 0, .int .u8 0, .int .u8 0, .int .u8 0, .int .u8 0, .int .u8 0, .int .u8 0, .int .u8 0, .int .u8 0, .slice none 0 0, .bool false, .int .u32 0, .int .i64 0, .bool false, .int .u8 0, .slice none 0 0]) (by kernel_rfl) ?_
    simp only [lay]
    have b147 := bt hb37 hb45
    have b148 := bt b147 hb82
    have b149 := bt b148 hb95
    have b150 := bt b149 hb102
    have l151 := lq b149 ge100
    have b152 := b150.trans (hb107.mono l151)
    have b153 := bt b152 hb114
    have has154 := hg24.to b153
    refine lz (ow_st 36 (.tmp 6) (.tmp 53) g22 #[.int .u8 0, .int .u32 0, .int .u8 0, .int .u8 0, .int .u8 0, .int .u8 0, .int .u8 0, .int .u8 0, .int .u8 0, .int .u8 0, .int .u8 0, .int .u8 0, .int .u8 0, .int .u8 0, .int .u8 0, .int .u8 0, .int .u8 0, .int .u8 0, .int .u8 0, .int .u8 0, .int .u8 0, .int .u8 0, .int .u8 0, .int .u8 0, .int .u8 0, .int .u8 0, .int .u8 0, .int .u8 0, .int .u8 0, .int .u8 0, .int .u8 0, .int .u8 0, .int .u8 0, .int .u8 0, .int .u8 0, .slice none 0 0, .bool false, .int .u32 0, .int .i64 0, .bool false, .int .u8 0, .slice none 0 0] _ _ rfl (by exact rfl) (by exact rfl) has154 (by kernel_rfl) rfl (by kernel_rfl) ?_)
    intro W143 hg144 bs145 hb146
    have b155 := bt b111 hb114
    have own156 := hO84.to b155
    have has157 := hg105.to hb114
    have z158 := hb146.size
    have own159 := own156.but6 bs145 (by omega)
    have has160 := has157.but6 bs145 (by omega)
    simp only [lay]
    refine lv (.int .i64 2) (by exact xa) ?_
    simp only [lay]
    refine wn ?_
    refine wp_ret ?_
    try simp only [Exit.then]
    have e : pack17 d s t s' t' = (zero6, 2) := by
     unfold pack17
     simp only [hAL, hAE]
     repeat (first | rw [if_pos (by first | assumption | omega | exact ne_true_of_eq_false (by assumption))] | rw [if_neg (by first | assumption | omega | exact ne_true_of_eq_false (by assumption))])
    have b161 := bt b79 hb82
    have b162 := bt b161 hb95
    have b163 := bt b162 hb102
    have l164 := lq b162 ge100
    have b165 := b163.trans (hb107.mono l164)
    have b166 := bt b165 hb114
    have l167 := lq b33 ge25
    have b168 := b166.trans (hb146.mono l167)
    exact bodyPost_ret (res_cell2 Try.results11 rfl (hg144.load (P := Try.prog) 36 Try.underlying36 rfl (by kernel_rfl)) rfl) rfl ⟨⟨pZ6, by rw [e]; rfl, by rw [e]; exact own6_zero _ _⟩, b168⟩
   refine lv (.bool true) (by exact neq_int_ne (by exact rfl) (by exact rfl) (by exact rfl) (by first | assumption | omega)) ?_
   simp only [lay]
   refine wn ?_
   refine cT9 ?_
   refine wp_sr ?_
   refine lv (.agg #[.int .u8 0, .int .u32 0, .int .u8 0, .int .u8 0, .int .u8 0, .int .u8 0, .int .u8 0, .int .u8 0, .int .u8 0, .int .u8 0, .int .u8 0, .int .u8 0, .int .u8 0, .int .u8 0, .int .u8 0, .int .u8 0, .int .u8 0, .int .u8 0, .int .u8 0, .int .u8 0, .int .u8 0, .int .u8 0, .int .u8 0, .int .u8 0, .int .u8 0, .int .u8 0, .int .u8 0, .int .u8 0, .int .u8 0, .int .u8 0, .int .u8 0, .int .u8 0, .int .u8 0, .int .u8 0, .int .u8 0, .slice none 0 0, .bool false, .int .u32 0, .int .i64 0, .bool false, .int .u8 0, .slice none 0 0]) (by kernel_rfl) ?_
   simp only [lay]
   refine lv (.int .i64 AE) (by exact xm) ?_
   simp only [lay]
   have b173 := bt hb37 hb45
   have b174 := bt b173 hb82
   have has175 := hg24.to b174
   refine lz (ow_st 36 (.tmp 6) (.tmp 44) g22 #[.int .u8 0, .int .u32 0, .int .u8 0, .int .u8 0, .int .u8 0, .int .u8 0, .int .u8 0, .int .u8 0, .int .u8 0, .int .u8 0, .int .u8 0, .int .u8 0, .int .u8 0, .int .u8 0, .int .u8 0, .int .u8 0, .int .u8 0, .int .u8 0, .int .u8 0, .int .u8 0, .int .u8 0, .int .u8 0, .int .u8 0, .int .u8 0, .int .u8 0, .int .u8 0, .int .u8 0, .int .u8 0, .int .u8 0, .int .u8 0, .int .u8 0, .int .u8 0, .int .u8 0, .int .u8 0, .int .u8 0, .slice none 0 0, .bool false, .int .u32 0, .int .i64 0, .bool false, .int .u8 0, .slice none 0 0] _ _ rfl (by exact rfl) (by exact rfl) has175 (by kernel_rfl) rfl (by kernel_rfl) ?_)
   intro W169 hg170 bs171 hb172
   have z176 := hb172.size
   have own177 := hO84.but6 bs171 (by omega)
   simp only [lay]
   refine lv (.int .i64 AE) (by exact xa) ?_
   simp only [lay]
   refine wn ?_
   refine wp_ret ?_
   try simp only [Exit.then]
   have e : pack17 d s t s' t' = (zero6, AE) := by
    unfold pack17
    simp only [hAL, hAE]
    repeat (first | rw [if_pos (by first | assumption | omega | exact ne_true_of_eq_false (by assumption))] | rw [if_neg (by first | assumption | omega | exact ne_true_of_eq_false (by assumption))])
   have b178 := bt b79 hb82
   have l179 := lq b33 ge25
   have b180 := b178.trans (hb172.mono l179)
   exact bodyPost_ret (res_cell2 Try.results11 rfl (hg170.load (P := Try.prog) 36 Try.underlying36 rfl (by kernel_rfl)) rfl) rfl ⟨⟨pZ6, by rw [e]; rfl, by rw [e]; exact own6_zero _ _⟩, b180⟩
  refine lv (.bool false) (by exact yqn) ?_
  simp only [lay]
  refine wn ?_
  refine cF9 ?_
  refine wp_region_lit ?_
  refine lv (.agg (d.cells p)) (by exact xo (has59.load (P := Try.prog) 27 Try.underlying27 rfl (by kernel_rfl))) ?_
  simp only [lay]
  have b181 := bt hb20 hb27
  have b182 := bt b181 hb37
  have b183 := bt b182 hb45
  have has184 := hg10.to b183
  refine lv (.agg (ends6 s t)) (by exact xo (has184.load (P := Try.prog) 31 Try.underlying31 rfl (by kernel_rfl))) ?_
  simp only [lay]
  have b185 := bt b42 hb45
  have rd186 := hR.to b185
  refine lz (ow_call (fun v w' => (∃ u, v = .tuple #[u, .int .i64 AE] ∧ OwnB w' W44.heap.size u AL) ∧ Below W44.heap.size W44 w') (by exact xk Try.func47) ((rbody17_any d p s t hE W44 rd186 (by omega)).mono (by rintro e w' ⟨⟨v, rfl, ho⟩, hb⟩; have ha : any17 d s t s' t' = body17 d s t := (by unfold any17; rw [if_neg (by assumption)]); rw [← ha, hAL] at ho; exact ⟨_, rfl, ⟨v, by rw [← ha, hAE], ho⟩, hb⟩)) ?_)
  rintro _ W187 ⟨⟨u189, rfl, hO190⟩, hb188⟩
  have z191 := hb188.size
  obtain ⟨A192, c193, rfl, y194⟩ := hO190.by_
  simp only [lay]
  refine lv (.tuple #[.slice A192 AL.length c193, .int .i64 AE]) (by exact xm) ?_
  simp only [lay]
  refine lv (.slice A192 AL.length c193) (by exact xe) ?_
  simp only [lay]
  refine lv (.int .i64 AE) (by exact xe) ?_
  simp only [lay]
  refine lv (.slice A192 AL.length c193) (by exact xa) ?_
  simp only [lay]
  refine lv (.int .i64 AE) (by exact xa) ?_
  simp only [lay]
  refine wn ?_
  refine wp_seq ?_
  refine wp_sr ?_
  refine lv (.int .i64 AE) (by exact xm) ?_
  simp only [lay]
  by_cases q195 : AE = 0
  case pos =>
   refine lv (.bool false) (by exact neq_int_eq (by exact rfl) (by exact rfl) (by exact rfl) (by first | assumption | omega)) ?_
   simp only [lay]
   refine wn ?_
   refine cF9 ?_
   refine wp_skip ?_
   change Code.wp _ _ _ _ _
   refine wp_sr ?_
   have b196 := bt b58 hb188
   have has197 := hg3.to b196
   refine lv (.agg (d.cells p)) (by exact xo (has197.load (P := Try.prog) 27 Try.underlying27 rfl (by kernel_rfl))) ?_
   simp only [lay]
   have b198 := bt b183 hb188
   have has199 := hg10.to b198
   refine lv (.agg (ends6 s t)) (by exact xo (has199.load (P := Try.prog) 31 Try.underlying31 rfl (by kernel_rfl))) ?_
   simp only [lay]
   refine lv (.slice A192 AL.length c193) (by exact xm) ?_
   simp only [lay]
   refine lz (ow_call (fun v w' => v = .agg ((head17 d s t AL).cells (pB6 A192 c193)) ∧ Below W187.heap.size W187 w') (by exact xk Try.func48) ((rheader_any d hR.ok _ s t AL A192 c193 W187).mono fun e w' h => ⟨_, h.1, rfl, h.2⟩) ?_)
   rintro _ W200 ⟨rfl, hb201⟩
   have z202 := hb201.size
   simp only [lay]
   refine lz (oa #[.int .u8 0, .int .u32 0, .int .u8 0, .int .u8 0, .int .u8 0, .int .u8 0, .int .u8 0, .int .u8 0, .int .u8 0, .int .u8 0, .int .u8 0, .int .u8 0, .int .u8 0, .int .u8 0, .int .u8 0, .int .u8 0, .int .u8 0, .int .u8 0, .int .u8 0, .int .u8 0, .int .u8 0, .int .u8 0, .int .u8 0, .int .u8 0, .int .u8 0, .int .u8 0, .int .u8 0, .int .u8 0, .int .u8 0, .int .u8 0, .int .u8 0, .int .u8 0, .int .u8 0, .int .u8 0, .int .u8 0, .slice none 0 0, .bool false, .int .u32 0, .int .i64 0, .bool false, .int .u8 0, .slice none 0 0] ?_)
   intro g203 W204 hg205 ge206 sz207 hb208
   have z209 := hb208.size
   simp only [lay]
   refine lz (ow_st 36 (.tmp 11) (.tmp 49) g203 ((head17 d s t AL).cells (pB6 A192 c193)) _ _ rfl (by exact rfl) (by exact rfl) hg205 (by kernel_rfl) rfl (by kernel_rfl) ?_)
   intro W210 hg211 bs212 hb213
   have z214 := hb213.size
   simp only [lay]
   refine wn ?_
   refine wp_seq ?_
   refine wp_sr ?_
   refine lv (.agg ((head17 d s t AL).cells (pB6 A192 c193))) (by exact xo (hg211.load (P := Try.prog) 36 Try.underlying36 rfl (by kernel_rfl))) ?_
   simp only [lay]
   have b215 := bt hb201 hb208
   have l216 := lq hb201 ge206
   have b217 := b215.trans (hb213.mono l216)
   have own218 := hO190.to b217
   refine lz (ow_call (fun v w' => v = .int .i64 ((head17 d s t AL).check) ∧ Below W210.heap.size W210 w') (by exact xk Try.func49) (rcheck6_x (head17_rd hR.ok hE (A := A192) (c := c193) (own_byS own218))) ?_)
   rintro _ W219 ⟨rfl, hb220⟩
   have z221 := hb220.size
   simp only [lay]
   by_cases q222 : (head17 d s t AL).check = 0
   case pos =>
    refine lv (.bool false) (by exact neq_int_eq (by exact rfl) (by exact rfl) (by exact rfl) (by first | assumption | omega)) ?_
    simp only [lay]
    refine wn ?_
    refine cF9 ?_
    refine wp_skip ?_
    change Code.wp _ _ _ _ _
    refine wp_sr ?_
    have has223 := hg211.to hb220
    refine lv (.agg ((head17 d s t AL).cells (pB6 A192 c193))) (by exact xo (has223.load (P := Try.prog) 36 Try.underlying36 rfl (by kernel_rfl))) ?_
    simp only [lay]
    have b228 := bt hb37 hb45
    have b229 := bt b228 hb188
    have b230 := bt b229 hb201
    have b231 := bt b230 hb208
    have l232 := lq b230 ge206
    have b233 := b231.trans (hb213.mono l232)
    have b234 := bt b233 hb220
    have has235 := hg24.to b234
    refine lz (ow_st 36 (.tmp 6) (.tmp 54) g22 ((head17 d s t AL).cells (pB6 A192 c193)) _ _ rfl (by exact rfl) (by exact rfl) has235 (by kernel_rfl) rfl (by kernel_rfl) ?_)
    intro W224 hg225 bs226 hb227
    have b236 := bt b217 hb220
    have own237 := hO190.to b236
    have z238 := hb227.size
    have own239 := own237.but6 bs226 (by omega)
    have has240 := has223.but6 bs226 (by omega)
    simp only [lay]
    refine lv (.int .i64 0) (by exact xa) ?_
    simp only [lay]
    refine wn ?_
    refine wp_ret ?_
    try simp only [Exit.then]
    have e : pack17 d s t s' t' = (head17 d s t AL, 0) := by
     unfold pack17
     simp only [hAL, hAE]
     repeat (first | rw [if_pos (by first | assumption | omega | exact ne_true_of_eq_false (by assumption))] | rw [if_neg (by first | assumption | omega | exact ne_true_of_eq_false (by assumption))])
    have b241 := bt b185 hb188
    have b242 := bt b241 hb201
    have b243 := bt b242 hb208
    have l244 := lq b242 ge206
    have b245 := b243.trans (hb213.mono l244)
    have b246 := bt b245 hb220
    have l247 := lq b33 ge25
    have b248 := b246.trans (hb227.mono l247)
    exact bodyPost_ret (res_cell2 Try.results11 rfl (hg225.load (P := Try.prog) 36 Try.underlying36 rfl (by kernel_rfl)) rfl) rfl ⟨⟨_, by rw [e]; rfl, by rw [e]; exact head17_own hR.ok hE (own239.more b185.size)⟩, b248⟩
   refine lv (.bool true) (by exact neq_int_ne (by exact rfl) (by exact rfl) (by exact rfl) (by first | assumption | omega)) ?_
   simp only [lay]
   refine wn ?_
   refine cT9 ?_
   refine wp_sr ?_
   refine lv (.agg #[.int .u8 0, .int .u32 0, .int .u8 0, .int .u8 0, .int .u8 0, .int .u8 0, .int .u8 0, .int .u8 0, .int .u8 0, .int .u8 0, .int .u8 0, .int .u8 0, .int .u8 0, .int .u8 0, .int .u8 0, .int .u8 0, .int .u8 0, .int .u8 0, .int .u8 0, .int .u8 0, .int .u8 0, .int .u8 0, .int .u8 0, .int .u8 0, .int .u8 0, .int .u8 0, .int .u8 0, .int .u8 0, .int .u8 0, .int .u8 0, .int .u8 0, .int .u8 0, .int .u8 0, .int .u8 0, .int .u8 0, .slice none 0 0, .bool false, .int .u32 0, .int .i64 0, .bool false, .int .u8 0, .slice none 0 0]) (by kernel_rfl) ?_
   simp only [lay]
   have b253 := bt hb37 hb45
   have b254 := bt b253 hb188
   have b255 := bt b254 hb201
   have b256 := bt b255 hb208
   have l257 := lq b255 ge206
   have b258 := b256.trans (hb213.mono l257)
   have b259 := bt b258 hb220
   have has260 := hg24.to b259
   refine lz (ow_st 36 (.tmp 6) (.tmp 53) g22 #[.int .u8 0, .int .u32 0, .int .u8 0, .int .u8 0, .int .u8 0, .int .u8 0, .int .u8 0, .int .u8 0, .int .u8 0, .int .u8 0, .int .u8 0, .int .u8 0, .int .u8 0, .int .u8 0, .int .u8 0, .int .u8 0, .int .u8 0, .int .u8 0, .int .u8 0, .int .u8 0, .int .u8 0, .int .u8 0, .int .u8 0, .int .u8 0, .int .u8 0, .int .u8 0, .int .u8 0, .int .u8 0, .int .u8 0, .int .u8 0, .int .u8 0, .int .u8 0, .int .u8 0, .int .u8 0, .int .u8 0, .slice none 0 0, .bool false, .int .u32 0, .int .i64 0, .bool false, .int .u8 0, .slice none 0 0] _ _ rfl (by exact rfl) (by exact rfl) has260 (by kernel_rfl) rfl (by kernel_rfl) ?_)
   intro W249 hg250 bs251 hb252
   have b261 := bt b217 hb220
   have own262 := hO190.to b261
   have has263 := hg211.to hb220
   have z264 := hb252.size
   have own265 := own262.but6 bs251 (by omega)
   have has266 := has263.but6 bs251 (by omega)
   simp only [lay]
   refine lv (.int .i64 2) (by exact xa) ?_
   simp only [lay]
   refine wn ?_
   refine wp_ret ?_
   try simp only [Exit.then]
   have e : pack17 d s t s' t' = (zero6, 2) := by
    unfold pack17
    simp only [hAL, hAE]
    repeat (first | rw [if_pos (by first | assumption | omega | exact ne_true_of_eq_false (by assumption))] | rw [if_neg (by first | assumption | omega | exact ne_true_of_eq_false (by assumption))])
   have b267 := bt b185 hb188
   have b268 := bt b267 hb201
   have b269 := bt b268 hb208
   have l270 := lq b268 ge206
   have b271 := b269.trans (hb213.mono l270)
   have b272 := bt b271 hb220
   have l273 := lq b33 ge25
   have b274 := b272.trans (hb252.mono l273)
   exact bodyPost_ret (res_cell2 Try.results11 rfl (hg250.load (P := Try.prog) 36 Try.underlying36 rfl (by kernel_rfl)) rfl) rfl ⟨⟨pZ6, by rw [e]; rfl, by rw [e]; exact own6_zero _ _⟩, b274⟩
  refine lv (.bool true) (by exact neq_int_ne (by exact rfl) (by exact rfl) (by exact rfl) (by first | assumption | omega)) ?_
  simp only [lay]
  refine wn ?_
  refine cT9 ?_
  refine wp_sr ?_
  refine lv (.agg #[.int .u8 0, .int .u32 0, .int .u8 0, .int .u8 0, .int .u8 0, .int .u8 0, .int .u8 0, .int .u8 0, .int .u8 0, .int .u8 0, .int .u8 0, .int .u8 0, .int .u8 0, .int .u8 0, .int .u8 0, .int .u8 0, .int .u8 0, .int .u8 0, .int .u8 0, .int .u8 0, .int .u8 0, .int .u8 0, .int .u8 0, .int .u8 0, .int .u8 0, .int .u8 0, .int .u8 0, .int .u8 0, .int .u8 0, .int .u8 0, .int .u8 0, .int .u8 0, .int .u8 0, .int .u8 0, .int .u8 0, .slice none 0 0, .bool false, .int .u32 0, .int .i64 0, .bool false, .int .u8 0, .slice none 0 0]) (by kernel_rfl) ?_
  simp only [lay]
  refine lv (.int .i64 AE) (by exact xm) ?_
  simp only [lay]
  have b279 := bt hb37 hb45
  have b280 := bt b279 hb188
  have has281 := hg24.to b280
  refine lz (ow_st 36 (.tmp 6) (.tmp 44) g22 #[.int .u8 0, .int .u32 0, .int .u8 0, .int .u8 0, .int .u8 0, .int .u8 0, .int .u8 0, .int .u8 0, .int .u8 0, .int .u8 0, .int .u8 0, .int .u8 0, .int .u8 0, .int .u8 0, .int .u8 0, .int .u8 0, .int .u8 0, .int .u8 0, .int .u8 0, .int .u8 0, .int .u8 0, .int .u8 0, .int .u8 0, .int .u8 0, .int .u8 0, .int .u8 0, .int .u8 0, .int .u8 0, .int .u8 0, .int .u8 0, .int .u8 0, .int .u8 0, .int .u8 0, .int .u8 0, .int .u8 0, .slice none 0 0, .bool false, .int .u32 0, .int .i64 0, .bool false, .int .u8 0, .slice none 0 0] _ _ rfl (by exact rfl) (by exact rfl) has281 (by kernel_rfl) rfl (by kernel_rfl) ?_)
  intro W275 hg276 bs277 hb278
  have z282 := hb278.size
  have own283 := hO190.but6 bs277 (by omega)
  simp only [lay]
  refine lv (.int .i64 AE) (by exact xa) ?_
  simp only [lay]
  refine wn ?_
  refine wp_ret ?_
  try simp only [Exit.then]
  have e : pack17 d s t s' t' = (zero6, AE) := by
   unfold pack17
   simp only [hAL, hAE]
   repeat (first | rw [if_pos (by first | assumption | omega | exact ne_true_of_eq_false (by assumption))] | rw [if_neg (by first | assumption | omega | exact ne_true_of_eq_false (by assumption))])
  have b284 := bt b185 hb188
  have l285 := lq b33 ge25
  have b286 := b284.trans (hb278.mono l285)
  exact bodyPost_ret (res_cell2 Try.results11 rfl (hg276.load (P := Try.prog) 36 Try.underlying36 rfl (by kernel_rfl)) rfl) rfl ⟨⟨pZ6, by rw [e]; rfl, by rw [e]; exact own6_zero _ _⟩, b286⟩
 refine lv (.bool true) (by exact neq_int_ne (by exact rfl) (by exact rfl) (by exact rfl) (by first | assumption | omega)) ?_
 simp only [lay]
 refine wn ?_
 refine cT9 ?_
 refine wp_sr ?_
 refine lv (.agg #[.int .u8 0, .int .u32 0, .int .u8 0, .int .u8 0, .int .u8 0, .int .u8 0, .int .u8 0, .int .u8 0, .int .u8 0, .int .u8 0, .int .u8 0, .int .u8 0, .int .u8 0, .int .u8 0, .int .u8 0, .int .u8 0, .int .u8 0, .int .u8 0, .int .u8 0, .int .u8 0, .int .u8 0, .int .u8 0, .int .u8 0, .int .u8 0, .int .u8 0, .int .u8 0, .int .u8 0, .int .u8 0, .int .u8 0, .int .u8 0, .int .u8 0, .int .u8 0, .int .u8 0, .int .u8 0, .int .u8 0, .slice none 0 0, .bool false, .int .u32 0, .int .i64 0, .bool false, .int .u8 0, .slice none 0 0]) (by kernel_rfl) ?_
 simp only [lay]
 refine lv (.int .i64 d.check) (by exact xm) ?_
 simp only [lay]
 have has291 := hg24.to hb37
 refine lz (ow_st 36 (.tmp 6) (.tmp 16) g22 #[.int .u8 0, .int .u32 0, .int .u8 0, .int .u8 0, .int .u8 0, .int .u8 0, .int .u8 0, .int .u8 0, .int .u8 0, .int .u8 0, .int .u8 0, .int .u8 0, .int .u8 0, .int .u8 0, .int .u8 0, .int .u8 0, .int .u8 0, .int .u8 0, .int .u8 0, .int .u8 0, .int .u8 0, .int .u8 0, .int .u8 0, .int .u8 0, .int .u8 0, .int .u8 0, .int .u8 0, .int .u8 0, .int .u8 0, .int .u8 0, .int .u8 0, .int .u8 0, .int .u8 0, .int .u8 0, .int .u8 0, .slice none 0 0, .bool false, .int .u32 0, .int .i64 0, .bool false, .int .u8 0, .slice none 0 0] _ _ rfl (by exact rfl) (by exact rfl) has291 (by kernel_rfl) rfl (by kernel_rfl) ?_)
 intro W287 hg288 bs289 hb290
 have z292 := hb290.size
 simp only [lay]
 refine lv (.int .i64 d.check) (by exact xa) ?_
 simp only [lay]
 refine wn ?_
 refine wp_ret ?_
 try simp only [Exit.then]
 have e : pack17 d s t s' t' = (zero6, d.check) := by
  unfold pack17
  simp only [hAL, hAE]
  repeat (first | rw [if_pos (by first | assumption | omega | exact ne_true_of_eq_false (by assumption))] | rw [if_neg (by first | assumption | omega | exact ne_true_of_eq_false (by assumption))])
 have b293 := bt b34 hb37
 have l294 := lq b33 ge25
 have b295 := b293.trans (hb290.mono l294)
 exact bodyPost_ret (res_cell2 Try.results11 rfl (hg288.load (P := Try.prog) 36 Try.underlying36 rfl (by kernel_rfl)) rfl) rfl ⟨⟨pZ6, by rw [e]; rfl, by rw [e]; exact own6_zero _ _⟩, b295⟩
end Go.Proofs.Ytijnifbpbgckgaa
