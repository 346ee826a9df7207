/-
  Lemmas and walks for the row of TosixMessages (part 42 of 43).
-/
import Derived.Test.YtijnifbpbgckgaaTmAH
import Derived.Test.YtijnifbpbgckgaaTmBH
import Derived.Test.YtijnifbpbgckgaaTmBM
import Derived.Test.YtijnifbpbgckgaaTmBO
set_option linter.unusedVariables false
set_option linter.unusedSimpArgs false
namespace Go.Proofs.Ytijnifbpbgckgaa
open Go.RowKit Go.Shelf
attribute [local irreducible] wpList Code.wp Oper.wp wpOp wpAnyH

set_option maxRecDepth 100000 in
set_option maxHeartbeats 8000000 in
theorem rmsg17_any (m : D7) (A : Option Addr) (c : Nat) (s t : List Int) (hE : E6ok s t) (w : World) (hR : Rd7 w.heap.size w m A c) :
  Calls Try.prog 15 #[.agg (m.cells A c), .agg (ends6 s t)] w fun e w' => ToldM17 (msg17 m s t) w.heap.size w' e ∧ Below w.heap.size w w' := by
 obtain ⟨IE, hIE⟩ : ∃ x, (inside17 m.bl s t).2 = x := ⟨_, rfl⟩
 obtain ⟨IL, hIL⟩ : ∃ x, (inside17 m.bl s t).1 = x := ⟨_, rfl⟩
 have y := hR.body
 go_enter Try.func15, Try.ntmps15
 refine wp_sr ?_
 refine lz (ow_box 46 (.tmp 0) _ rfl rfl ?_)
 intro g1 W2 hg3 ge4 sz5 hb6
 have z7 := hb6.size
 simp only [lay]
 refine lz (ow_box 31 (.tmp 1) _ rfl rfl ?_)
 intro g8 W9 hg10 ge11 sz12 hb13
 have z14 := hb13.size
 simp only [lay]
 refine lz (oa #[.int .u8 0, .int .u8 0, .int .u32 0, .slice none 0 0] ?_)
 intro g15 W16 hg17 ge18 sz19 hb20
 have z21 := hb20.size
 simp only [lay]
 refine lv (.int .i64 0) (by exact xa) ?_
 simp only [lay]
 refine wn ?_
 refine wp_sr ?_
 have b22 := bt hb13 hb20
 have has23 := hg3.to b22
 refine lv (.agg (m.cells A c)) (by exact xo (has23.load (P := Try.prog) 46 Try.underlying46 rfl (by kernel_rfl))) ?_
 simp only [lay]
 refine lz (ow_call (fun v w' => (∃ a b c', v = .tuple #[.agg #[.int .u8 a, .int .u8 b, .int .u32 c', .slice none 0 0], .bool (kind17 m).2] ∧ ((kind17 m).2 = true → (kind17 m).1 = (a, b, c'))) ∧ Below W16.heap.size W16 w') (by exact xk Try.func52) ((rkind17_any m hR.ok _ _ W16).mono (by rintro e w' ⟨⟨a, b, c', rfl, hk⟩, hb⟩; exact ⟨_, rfl, ⟨a, b, c', rfl, hk⟩, hb⟩)) ?_)
 rintro _ W24 ⟨⟨q126, q227, q328, rfl, hk29⟩, hb25⟩
 have z30 := hb25.size
 simp only [lay]
 refine lv (.tuple #[.agg #[.int .u8 q126, .int .u8 q227, .int .u32 q328, .slice none 0 0], .bool ((kind17 m).2)]) (by exact xm) ?_
 simp only [lay]
 refine lv (.agg #[.int .u8 q126, .int .u8 q227, .int .u32 q328, .slice none 0 0]) (by exact xe) ?_
 simp only [lay]
 refine lv (.bool ((kind17 m).2)) (by exact xe) ?_
 simp only [lay]
 refine lz (oa #[.int .u8 0, .int .u8 0, .int .u32 0, .slice none 0 0] ?_)
 intro g31 W32 hg33 ge34 sz35 hb36
 have z37 := hb36.size
 simp only [lay]
 refine lz (ow_st 46 (.tmp 6) (.tmp 13) g31 #[.int .u8 q126, .int .u8 q227, .int .u32 q328, .slice none 0 0] _ _ rfl (by exact rfl) (by exact rfl) hg33 (by kernel_rfl) rfl (by kernel_rfl) ?_)
 intro W38 hg39 bs40 hb41
 have z42 := hb41.size
 simp only [lay]
 refine lv (.bool ((kind17 m).2)) (by exact xa) ?_
 simp only [lay]
 refine wn ?_
 refine wp_seq ?_
 refine wp_sr ?_
 refine lv (.bool ((kind17 m).2)) (by exact xm) ?_
 simp only [lay]
 by_cases q43 : (kind17 m).2 = true
 case pos =>
  rw [q43]
  have hkk := hk29 q43
  refine lv (.bool false) (by exact ex_not (b := true) (by exact rfl) (by exact rfl)) ?_
  simp only [lay]
  refine wn ?_
  refine wp_cond_false (by exact rfl) ?_
  refine wp_skip ?_
  change Code.wp _ _ _ _ _
  refine wp_seq ?_
  refine wp_sr ?_
  refine lv (.pointer (some ⟨g1, 3, none⟩)) (by exact xf 3 0 Try.underlying46) ?_
  simp only [lay]
  have b44 := bt b22 hb25
  have b45 := bt b44 hb36
  have l46 := lq b44 ge34
  have b47 := b45.trans (hb41.mono l46)
  have has48 := hg3.to b47
  refine lv (.slice A m.bl.length c) (by exact xc Try.underlying25 (has48.cell 3 rfl)) ?_
  simp only [lay]
  refine lv (.int .i64 (m.bl.length : Int)) (by exact xz Try.underlying25) ?_
  simp only [lay]
  by_cases q49 : (m.bl.length : Int) > 65527
  case pos =>
   refine lv (.bool true) (by exact ex_gtr (by exact rfl) (by exact rfl) (by exact rfl) (decide_eq_true (by first | assumption | omega | decide))) ?_
   simp only [lay]
   refine wn ?_
   refine wp_cond_true (by exact rfl) ?_
   refine wp_sr ?_
   refine lv (.agg #[.int .u8 0, .int .u8 0, .int .u32 0, .slice none 0 0]) (by kernel_rfl) ?_
   simp only [lay]
   have b54 := bt hb25 hb36
   have l55 := lq hb25 ge34
   have b56 := b54.trans (hb41.mono l55)
   have has57 := hg17.to b56
   refine lz (ow_st 46 (.tmp 4) (.tmp 22) g15 #[.int .u8 0, .int .u8 0, .int .u32 0, .slice none 0 0] _ _ rfl (by exact rfl) (by exact rfl) has57 (by kernel_rfl) rfl (by kernel_rfl) ?_)
   intro W50 hg51 bs52 hb53
   have z58 := hb53.size
   have has59 := hg39.but6 bs52 (by omega)
   simp only [lay]
   refine lv (.int .i64 2) (by exact xa) ?_
   simp only [lay]
   refine wn ?_
   refine wp_ret ?_
   try simp only [Exit.then]
   have e : msg17 m s t = (zero7, 2) := by
    unfold msg17
    rw [if_neg (by simp [*])]
    simp only [hkk, hIE, hIL]
    repeat (first | rw [if_pos (by first | assumption | omega)] | rw [if_neg (by first | assumption | omega)])
   have b60 := bt hb6 hb13
   have b61 := bt b60 hb20
   have b62 := bt b61 hb25
   have b63 := bt b62 hb36
   have l64 := lq b62 ge34
   have b65 := b63.trans (hb41.mono l64)
   have l66 := lq b60 ge18
   have b67 := b65.trans (hb53.mono l66)
   exact bodyPost_ret (res_cell2 Try.results15 rfl (hg51.load (P := Try.prog) 46 Try.underlying46 rfl (by kernel_rfl)) rfl) rfl ⟨⟨none, 0, by rw [e]; rfl, by rw [e]; exact zero7_ok, by rw [e]; exact OwnB.nil _ _⟩, b67⟩
  refine lv (.bool false) (by exact ex_gtr (by exact rfl) (by exact rfl) (by exact rfl) (decide_eq_false (by first | assumption | omega | decide))) ?_
  simp only [lay]
  refine wn ?_
  refine wp_cond_false (by exact rfl) ?_
  refine wp_skip ?_
  change Code.wp _ _ _ _ _
  refine wp_seq ?_
  refine wp_sr ?_
  refine lv (.pointer (some ⟨g31, 0, none⟩)) (by exact xf 0 0 Try.underlying46) ?_
  simp only [lay]
  refine lv (.int .u8 q126) (by exact xc Try.underlying5 (hg39.cell 0 rfl)) ?_
  simp only [lay]
  by_cases q68 : q126 ≥ 128
  case pos =>
   refine lv (.bool true) (by exact ex_geq (by exact rfl) (by exact rfl) (by exact rfl) (decide_eq_true (by first | assumption | omega | decide))) ?_
   simp only [lay]
   refine wn ?_
   refine wp_cond_true (by exact rfl) ?_
   refine wp_sr ?_
   refine lz (ow_build0 rfl Try.underlying25 (by kernel_rfl) ?_)
   intro g69 W70 hg71 ge72 sz73 hb74
   have z75 := hb74.size
   have hO76 : OwnB W70 W38.heap.size (.slice (some ⟨g69, 0, none⟩) 0 0) [] := OwnB.blk (l := []) hg71 (Nat.le_of_eq ge72.symm) rfl InB.nil (by simp)
   simp only [lay]
   refine lv (.pointer (some ⟨g1, 3, none⟩)) (by exact xf 3 0 Try.underlying46) ?_
   simp only [lay]
   have b77 := bt b47 hb74
   have has78 := hg3.to b77
   refine lv (.slice A m.bl.length c) (by exact xc Try.underlying25 (has78.cell 3 rfl)) ?_
   simp only [lay]
   have b84 := bt hb6 hb13
   have b85 := bt b84 hb20
   have b86 := bt b85 hb25
   have b87 := bt b86 hb36
   have l88 := lq b86 ge34
   have b89 := b87.trans (hb41.mono l88)
   have b90 := bt b89 hb74
   have by91 := y.to b90
   refine lz (ow_app (.tmp 26) (.tmp 28) 25 rfl Try.underlying25 info8 _ _ [] rfl hO76 _ _ _ _ m.bl rfl by91 (by simp only [List.length_nil]; omega) hb74.size ?_)
   intro v83 W79 hO80 hb81 hgr82
   have z92 := hb81.size
   have hO93 : OwnB W79 W38.heap.size v83 m.bl := hO80
   obtain ⟨A94, c95, rfl, y96⟩ := hO93.by_
   simp only [lay]
   refine lv (.pointer (some ⟨g31, 3, none⟩)) (by exact xf 3 0 Try.underlying46) ?_
   simp only [lay]
   have b101 := hb74.trans (hb81.mono (Nat.le_refl _))
   have has102 := hg39.to b101
   refine lz (ow_st1 25 (.tmp 30) (.tmp 29) g31 3 (.slice A94 m.bl.length c95) _ #[.int .u8 q126, .int .u8 q227, .int .u32 q328, .slice A94 m.bl.length c95] _ rfl (by exact rfl) (by exact rfl) rfl (by kernel_rfl) has102 rfl rfl (by kernel_rfl) ?_)
   intro W97 hg98 bs99 hb100
   have z103 := hb100.size
   have own104 := hO93.but6 bs99 (by omega)
   simp only [lay]
   refine wn ?_
   refine wp_sr ?_
   refine lv (.agg #[.int .u8 q126, .int .u8 q227, .int .u32 q328, .slice A94 m.bl.length c95]) (by exact xo (hg98.load (P := Try.prog) 46 Try.underlying46 rfl (by kernel_rfl))) ?_
   simp only [lay]
   have b109 := bt hb25 hb36
   have l110 := lq hb25 ge34
   have b111 := b109.trans (hb41.mono l110)
   have b112 := bt b111 hb74
   have l113 := Nat.le_trans b111.size (Nat.le_refl _)
   have b114 := b112.trans (hb81.mono l113)
   have b115 := b114.trans (hb100.mono l110)
   have has116 := hg17.to b115
   refine lz (ow_st 46 (.tmp 4) (.tmp 31) g15 #[.int .u8 q126, .int .u8 q227, .int .u32 q328, .slice A94 m.bl.length c95] _ _ rfl (by exact rfl) (by exact rfl) has116 (by kernel_rfl) rfl (by kernel_rfl) ?_)
   intro W105 hg106 bs107 hb108
   have z117 := hb108.size
   have own118 := own104.but6 bs107 (by omega)
   have has119 := hg98.but6 bs107 (by omega)
   simp only [lay]
   refine lv (.int .i64 0) (by exact xa) ?_
   simp only [lay]
   refine wn ?_
   refine wp_ret ?_
   try simp only [Exit.then]
   have e : msg17 m s t = (⟨q126, q227, q328, m.bl⟩, 0) := by
    unfold msg17
    rw [if_neg (by simp [*])]
    simp only [hkk, hIE, hIL]
    repeat (first | rw [if_pos (by first | assumption | omega)] | rw [if_neg (by first | assumption | omega)])
   have hok : (⟨q126, q227, q328, m.bl⟩ : D7).ok := by have := kind17_ok hR.ok (m.bl); rw [hkk] at this; exact this
   have hcs : (#[.int .u8 q126, .int .u8 q227, .int .u32 q328, .slice A94 m.bl.length c95] : Array Value) = (⟨q126, q227, q328, m.bl⟩ : D7).cells A94 c95 := by
    show _ = (#[.int .u8 q126, .int .u8 q227, .int .u32 q328, .slice A94 (m.bl).length c95] : Array Value)
    rw [← own_len own118]
   have h4 := hg106
   rw [hcs] at h4
   have hO4 := own_norm (own118.more b89.size)
   have l120 := Nat.le_trans b89.size (Nat.le_refl _)
   have b121 := b90.trans (hb81.mono l120)
   have b122 := b121.trans (hb100.mono l88)
   have l123 := lq b84 ge18
   have b124 := b122.trans (hb108.mono l123)
   exact bodyPost_ret (res_cell2 Try.results15 rfl (h4.load (P := Try.prog) 46 Try.underlying46 rfl (by kernel_rfl)) rfl) rfl ⟨⟨A94, c95, by rw [e]; rfl, by rw [e]; exact hok, by rw [e]; exact hO4⟩, b124⟩
  refine lv (.bool false) (by exact ex_geq (by exact rfl) (by exact rfl) (by exact rfl) (decide_eq_false (by first | assumption | omega | decide))) ?_
  simp only [lay]
  refine wn ?_
  refine wp_cond_false (by exact rfl) ?_
  refine wp_skip ?_
  change Code.wp _ _ _ _ _
  refine wp_sr ?_
  refine lv (.pointer (some ⟨g1, 3, none⟩)) (by exact xf 3 0 Try.underlying46) ?_
  simp only [lay]
  refine lv (.slice A m.bl.length c) (by exact xc Try.underlying25 (has48.cell 3 rfl)) ?_
  simp only [lay]
  have b125 := bt hb20 hb25
  have b126 := bt b125 hb36
  have l127 := lq b125 ge34
  have b128 := b126.trans (hb41.mono l127)
  have has129 := hg10.to b128
  refine lv (.agg (ends6 s t)) (by exact xo (has129.load (P := Try.prog) 31 Try.underlying31 rfl (by kernel_rfl))) ?_
  simp only [lay]
  have b130 := bt hb6 hb13
  have b131 := bt b130 hb20
  have b132 := bt b131 hb25
  have b133 := bt b132 hb36
  have l134 := lq b132 ge34
  have b135 := b133.trans (hb41.mono l134)
  have by136 := y.to b135
  refine lz (ow_call (fun v w' => (∃ u, v = .tuple #[u, .int .i64 IE] ∧ OwnB w' W38.heap.size u IL) ∧ Below W38.heap.size W38 w') (by exact xk Try.func18) ((rInside17_any _ _ _ _ _ _ hE W38 by136).mono (by rintro e w' ⟨⟨v, rfl, ho⟩, hb⟩; exact ⟨_, rfl, ⟨v, by rw [hIE], by rw [← hIL]; exact ho⟩, hb⟩)) ?_)
  rintro _ W137 ⟨⟨u139, rfl, hO140⟩, hb138⟩
  have z141 := hb138.size
  obtain ⟨A142, c143, rfl, y144⟩ := hO140.by_
  simp only [lay]
  refine lv (.tuple #[.slice A142 IL.length c143, .int .i64 IE]) (by exact xm) ?_
  simp only [lay]
  refine lv (.slice A142 IL.length c143) (by exact xe) ?_
  simp only [lay]
  refine lv (.int .i64 IE) (by exact xe) ?_
  simp only [lay]
  refine lv (.slice A142 IL.length c143) (by exact xa) ?_
  simp only [lay]
  refine lv (.int .i64 IE) (by exact xa) ?_
  simp only [lay]
  refine wn ?_
  refine wp_seq ?_
  refine wp_sr ?_
  refine lv (.int .i64 IE) (by exact xm) ?_
  simp only [lay]
  by_cases q145 : IE = 0
  case pos =>
   refine lv (.bool false) (by exact neq_int_eq (by exact rfl) (by exact rfl) (by exact rfl) (by first | assumption | omega)) ?_
   simp only [lay]
   refine wn ?_
   refine wp_cond_false (by exact rfl) ?_
   refine wp_skip ?_
   change Code.wp _ _ _ _ _
   refine wp_seq ?_
   refine wp_sr ?_
   refine lv (.slice A142 IL.length c143) (by exact xm) ?_
   simp only [lay]
   refine lv (.int .i64 (IL.length : Int)) (by exact xz Try.underlying25) ?_
   simp only [lay]
   by_cases q146 : (IL.length : Int) > 1232
   case pos =>
    refine lv (.bool true) (by exact ex_gtr (by exact rfl) (by exact rfl) (by exact rfl) (decide_eq_true (by first | assumption | omega | decide))) ?_
    simp only [lay]
    refine wn ?_
    refine wp_cond_true (by exact rfl) ?_
    refine wp_region_lit ?_
    refine lv (.slice A142 IL.length c143) (by exact xm) ?_
    simp only [lay]
    have y148 := (own_byS hO140)
    have y147 := y148.to_ (P := Try.prog) 25 Try.underlying25 (by kernel_rfl) (k := 1232) (by omega)
    have hO149 := hO140.take (k := 1232) (by omega)
    refine lv (.slice A142 1232 c143) (by exact ex_slice (by exact rfl) (by exact rfl) (y147.1 _)) ?_
    simp only [lay]
    refine lv (.slice A142 1232 c143) (by exact xa) ?_
    simp only [lay]
    refine wn ?_
    refine wp_sr ?_
    refine lv (.slice A142 1232 c143) (by exact xm) ?_
    simp only [lay]
    refine lv (.pointer (some ⟨g31, 3, none⟩)) (by exact xf 3 0 Try.underlying46) ?_
    simp only [lay]
    have has154 := hg39.to hb138
    refine lz (ow_st1 25 (.tmp 49) (.tmp 48) g31 3 (.slice A142 1232 c143) _ #[.int .u8 q126, .int .u8 q227, .int .u32 q328, .slice A142 1232 c143] _ rfl (by exact rfl) (by exact rfl) rfl (by kernel_rfl) has154 rfl rfl (by kernel_rfl) ?_)
    intro W150 hg151 bs152 hb153
    have z155 := hb153.size
    have own156 := hO140.but6 bs152 (by omega)
    have own157 := hO149.but6 bs152 (by omega)
    simp only [lay]
    refine wn ?_
    refine wp_sr ?_
    refine lv (.agg #[.int .u8 q126, .int .u8 q227, .int .u32 q328, .slice A142 1232 c143]) (by exact xo (hg151.load (P := Try.prog) 46 Try.underlying46 rfl (by kernel_rfl))) ?_
    simp only [lay]
    have b162 := bt hb25 hb36
    have l163 := lq hb25 ge34
    have b164 := b162.trans (hb41.mono l163)
    have b165 := bt b164 hb138
    have b166 := b165.trans (hb153.mono l163)
    have has167 := hg17.to b166
    refine lz (ow_st 46 (.tmp 4) (.tmp 50) g15 #[.int .u8 q126, .int .u8 q227, .int .u32 q328, .slice A142 1232 c143] _ _ rfl (by exact rfl) (by exact rfl) has167 (by kernel_rfl) rfl (by kernel_rfl) ?_)
    intro W158 hg159 bs160 hb161
    have z168 := hb161.size
    have own169 := own156.but6 bs160 (by omega)
    have own170 := own157.but6 bs160 (by omega)
    have has171 := hg151.but6 bs160 (by omega)
    simp only [lay]
    refine lv (.int .i64 0) (by exact xa) ?_
    simp only [lay]
    refine wn ?_
    refine wp_ret ?_
    try simp only [Exit.then]
    have e : msg17 m s t = (⟨q126, q227, q328, IL.take 1232⟩, 0) := by
     unfold msg17
     rw [if_neg (by simp [*])]
     simp only [hkk, hIE, hIL]
     repeat (first | rw [if_pos (by first | assumption | omega)] | rw [if_neg (by first | assumption | omega)])
    have hok : (⟨q126, q227, q328, IL.take 1232⟩ : D7).ok := by have := kind17_ok hR.ok (IL.take 1232); rw [hkk] at this; exact this
    have hcs : (#[.int .u8 q126, .int .u8 q227, .int .u32 q328, .slice A142 1232 c143] : Array Value) = (⟨q126, q227, q328, IL.take 1232⟩ : D7).cells A142 c143 := by
     show _ = (#[.int .u8 q126, .int .u8 q227, .int .u32 q328, .slice A142 (IL.take 1232).length c143] : Array Value)
     rw [← own_len own170]
    have h4 := hg159
    rw [hcs] at h4
    have hO4 := own_norm (own170.more b135.size)
    have b172 := bt b135 hb138
    have b173 := b172.trans (hb153.mono l134)
    have l174 := lq b130 ge18
    have b175 := b173.trans (hb161.mono l174)
    exact bodyPost_ret (res_cell2 Try.results15 rfl (h4.load (P := Try.prog) 46 Try.underlying46 rfl (by kernel_rfl)) rfl) rfl ⟨⟨A142, c143, by rw [e]; rfl, by rw [e]; exact hok, by rw [e]; exact hO4⟩, b175⟩
   refine lv (.bool false) (by exact ex_gtr (by exact rfl) (by exact rfl) (by exact rfl) (decide_eq_false (by first | assumption | omega | decide))) ?_
   simp only [lay]
   refine wn ?_
   refine wp_cond_false (by exact rfl) ?_
   refine wp_skip ?_
   change Code.wp _ _ _ _ _
   refine wp_sr ?_
   refine lv (.slice A142 IL.length c143) (by exact xm) ?_
   simp only [lay]
   refine lv (.pointer (some ⟨g31, 3, none⟩)) (by exact xf 3 0 Try.underlying46) ?_
   simp only [lay]
   have has180 := hg39.to hb138
   refine lz (ow_st1 25 (.tmp 49) (.tmp 48) g31 3 (.slice A142 IL.length c143) _ #[.int .u8 q126, .int .u8 q227, .int .u32 q328, .slice A142 IL.length c143] _ rfl (by exact rfl) (by exact rfl) rfl (by kernel_rfl) has180 rfl rfl (by kernel_rfl) ?_)
   intro W176 hg177 bs178 hb179
   have z181 := hb179.size
   have own182 := hO140.but6 bs178 (by omega)
   simp only [lay]
   refine wn ?_
   refine wp_sr ?_
   refine lv (.agg #[.int .u8 q126, .int .u8 q227, .int .u32 q328, .slice A142 IL.length c143]) (by exact xo (hg177.load (P := Try.prog) 46 Try.underlying46 rfl (by kernel_rfl))) ?_
   simp only [lay]
   have b187 := bt hb25 hb36
   have l188 := lq hb25 ge34
   have b189 := b187.trans (hb41.mono l188)
   have b190 := bt b189 hb138
   have b191 := b190.trans (hb179.mono l188)
   have has192 := hg17.to b191
   refine lz (ow_st 46 (.tmp 4) (.tmp 50) g15 #[.int .u8 q126, .int .u8 q227, .int .u32 q328, .slice A142 IL.length c143] _ _ rfl (by exact rfl) (by exact rfl) has192 (by kernel_rfl) rfl (by kernel_rfl) ?_)
   intro W183 hg184 bs185 hb186
   have z193 := hb186.size
   have own194 := own182.but6 bs185 (by omega)
   have has195 := hg177.but6 bs185 (by omega)
   simp only [lay]
   refine lv (.int .i64 0) (by exact xa) ?_
   simp only [lay]
   refine wn ?_
   refine wp_ret ?_
   try simp only [Exit.then]
   have e : msg17 m s t = (⟨q126, q227, q328, IL⟩, 0) := by
    unfold msg17
    rw [if_neg (by simp [*])]
    simp only [hkk, hIE, hIL]
    repeat (first | rw [if_pos (by first | assumption | omega)] | rw [if_neg (by first | assumption | omega)])
    rw [List.take_of_length_le (show IL.length ≤ 1232 from by omega)]
   have hok : (⟨q126, q227, q328, IL⟩ : D7).ok := by have := kind17_ok hR.ok (IL); rw [hkk] at this; exact this
   have hcs : (#[.int .u8 q126, .int .u8 q227, .int .u32 q328, .slice A142 IL.length c143] : Array Value) = (⟨q126, q227, q328, IL⟩ : D7).cells A142 c143 := by
    show _ = (#[.int .u8 q126, .int .u8 q227, .int .u32 q328, .slice A142 (IL).length c143] : Array Value)
    rw [← own_len own194]
   have h4 := hg184
   rw [hcs] at h4
   have hO4 := own_norm (own194.more b135.size)
   have b196 := bt b135 hb138
   have b197 := b196.trans (hb179.mono l134)
   have l198 := lq b130 ge18
   have b199 := b197.trans (hb186.mono l198)
   exact bodyPost_ret (res_cell2 Try.results15 rfl (h4.load (P := Try.prog) 46 Try.underlying46 rfl (by kernel_rfl)) rfl) rfl ⟨⟨A142, c143, by rw [e]; rfl, by rw [e]; exact hok, by rw [e]; exact hO4⟩, b199⟩
  refine lv (.bool true) (by exact neq_int_ne (by exact rfl) (by exact rfl) (by exact rfl) (by first | assumption | omega)) ?_
  simp only [lay]
  refine wn ?_
  refine wp_cond_true (by exact rfl) ?_
  refine wp_sr ?_
  refine lv (.agg #[.int .u8 0, .int .u8 0, .int .u32 0, .slice none 0 0]) (by kernel_rfl) ?_
  simp only [lay]
  refine lv (.int .i64 IE) (by exact xm) ?_
  simp only [lay]
  have b204 := bt hb25 hb36
  have l205 := lq hb25 ge34
  have b206 := b204.trans (hb41.mono l205)
  have b207 := bt b206 hb138
  have has208 := hg17.to b207
  refine lz (ow_st 46 (.tmp 4) (.tmp 41) g15 #[.int .u8 0, .int .u8 0, .int .u32 0, .slice none 0 0] _ _ rfl (by exact rfl) (by exact rfl) has208 (by kernel_rfl) rfl (by kernel_rfl) ?_)
  intro W200 hg201 bs202 hb203
  have has209 := hg39.to hb138
  have z210 := hb203.size
  have has211 := has209.but6 bs202 (by omega)
  have own212 := hO140.but6 bs202 (by omega)
  simp only [lay]
  refine lv (.int .i64 IE) (by exact xa) ?_
  simp only [lay]
  refine wn ?_
  refine wp_ret ?_
  try simp only [Exit.then]
  have e : msg17 m s t = (zero7, IE) := by
   unfold msg17
   rw [if_neg (by simp [*])]
   simp only [hkk, hIE, hIL]
   repeat (first | rw [if_pos (by first | assumption | omega)] | rw [if_neg (by first | assumption | omega)])
  have b213 := bt b135 hb138
  have l214 := lq b130 ge18
  have b215 := b213.trans (hb203.mono l214)
  exact bodyPost_ret (res_cell2 Try.results15 rfl (hg201.load (P := Try.prog) 46 Try.underlying46 rfl (by kernel_rfl)) rfl) rfl ⟨⟨none, 0, by rw [e]; rfl, by rw [e]; exact zero7_ok, by rw [e]; exact OwnB.nil _ _⟩, b215⟩
 replace q43 := eq_false_of_ne_true q43
 rw [q43]
 refine lv (.bool true) (by exact ex_not (b := false) (by exact rfl) (by exact rfl)) ?_
 simp only [lay]
 refine wn ?_
 refine wp_cond_true (by exact rfl) ?_
 refine wp_sr ?_
 refine lv (.agg #[.int .u8 0, .int .u8 0, .int .u32 0, .slice none 0 0]) (by kernel_rfl) ?_
 simp only [lay]
 have b220 := bt hb25 hb36
 have l221 := lq hb25 ge34
 have b222 := b220.trans (hb41.mono l221)
 have has223 := hg17.to b222
 refine lz (ow_st 46 (.tmp 4) (.tmp 17) g15 #[.int .u8 0, .int .u8 0, .int .u32 0, .slice none 0 0] _ _ rfl (by exact rfl) (by exact rfl) has223 (by kernel_rfl) rfl (by kernel_rfl) ?_)
 intro W216 hg217 bs218 hb219
 have z224 := hb219.size
 have has225 := hg39.but6 bs218 (by omega)
 simp only [lay]
 refine lv (.int .i64 175) (by exact xa) ?_
 simp only [lay]
 refine wn ?_
 refine wp_ret ?_
 try simp only [Exit.then]
 have e : msg17 m s t = (zero7, 175) := by
  unfold msg17
  rw [if_pos (by assumption)]
 have b226 := bt hb6 hb13
 have b227 := bt b226 hb20
 have b228 := bt b227 hb25
 have b229 := bt b228 hb36
 have l230 := lq b228 ge34
 have b231 := b229.trans (hb41.mono l230)
 have l232 := lq b226 ge18
 have b233 := b231.trans (hb219.mono l232)
 exact bodyPost_ret (res_cell2 Try.results15 rfl (hg217.load (P := Try.prog) 46 Try.underlying46 rfl (by kernel_rfl)) rfl) rfl ⟨⟨none, 0, by rw [e]; rfl, by rw [e]; exact zero7_ok, by rw [e]; exact OwnB.nil _ _⟩, b233⟩
end Go.Proofs.Ytijnifbpbgckgaa
