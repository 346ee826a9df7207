/-
  Lemmas and walks for the row of TofourPackets,TofourMessages,TofourInside (part 37 of 42).
-/
import Derived.Test.YtjnphelfloiadaaFpAG
import Derived.Test.YtjnphelfloiadaaFpAS
import Derived.Test.YtjnphelfloiadaaFpBE
import Derived.Test.YtjnphelfloiadaaFpBH
import Derived.Test.YtjnphelfloiadaaFpBI
import Derived.Test.YtjnphelfloiadaaFpBJ
set_option linter.unusedVariables false
set_option linter.unusedSimpArgs false
namespace Go.Proofs.Ytjnphelfloiadaa
open Go.RowKit Go.Shelf
attribute [local irreducible] wpList Code.wp Oper.wp wpOp wpAnyH

set_option maxRecDepth 100000 in
set_option maxHeartbeats 8000000 in
theorem rmsg18_any (m : D7) (A : Option Addr) (c : Nat) (s t : List Int) (hE : E4ok s t) (w : World) (hR : Rd7 w.heap.size w m A c) :
  Calls Try.prog 14 #[.agg (m.cells A c), .agg (e4c s t)] w fun e w' => ToldM17 (msg18 m s t) w.heap.size w' e ∧ Below w.heap.size w w' := by
 obtain ⟨IE, hIE⟩ : ∃ x, (inside18 m.bl s t).2 = x := ⟨_, rfl⟩
 obtain ⟨IL, hIL⟩ : ∃ x, (inside18 m.bl s t).1 = x := ⟨_, rfl⟩
 have y := hR.body
 go_enter Try.func14, Try.ntmps14
 refine wp_sr ?_
 refine lz (ow_box 43 (.tmp 0) _ rfl rfl ?_)
 intro g1 W2 hg3 ge4 sz5 hb6
 have z7 := hb6.size
 simp only [lay]
 refine lz (ow_box 32 (.tmp 1) _ rfl rfl ?_)
 intro g8 W9 hg10 ge11 sz12 hb13
 have z14 := hb13.size
 simp only [lay]
 refine lz (oa #[.int .u8 0, .int .u8 0, .int .u32 0, .slice none 0 0] ?_)
 intro g15 W16 hg17 ge18 sz19 hb20
 have z21 := hb20.size
 simp only [lay]
 refine lv (.int .i64 0) (by exact xa) ?_
 simp only [lay]
 refine wn ?_
 refine wp_sr ?_
 have b22 := bt hb13 hb20
 refine lv (.agg (m.cells A c)) (by exact xo ((hg3.to b22).load (P := Try.prog) 43 Try.underlying43 rfl (by kernel_rfl))) ?_
 simp only [lay]
 refine lz (ow_call (fun v w' => (∃ a b c', v = .tuple #[.agg #[.int .u8 a, .int .u8 b, .int .u32 c', .slice none 0 0], .bool (kind18 m).2] ∧ ((kind18 m).2 = true → (kind18 m).1 = (a, b, c'))) ∧ Below W16.heap.size W16 w') (by exact xk Try.func47) ((rkind18_any m hR.ok _ _ W16).mono (by rintro e w' ⟨⟨a, b, c', rfl, hk⟩, hb⟩; exact ⟨_, rfl, ⟨a, b, c', rfl, hk⟩, hb⟩)) ?_)
 rintro _ W24 ⟨⟨q126, q227, q328, rfl, hk29⟩, hb25⟩
 have z30 := hb25.size
 simp only [lay]
 refine lv (.tuple #[.agg #[.int .u8 q126, .int .u8 q227, .int .u32 q328, .slice none 0 0], .bool ((kind18 m).2)]) (by exact xm) ?_
 refine lv (.agg #[.int .u8 q126, .int .u8 q227, .int .u32 q328, .slice none 0 0]) (by exact xe) ?_
 refine lv (.bool ((kind18 m).2)) (by exact xe) ?_
 simp only [lay]
 refine lz (oa #[.int .u8 0, .int .u8 0, .int .u32 0, .slice none 0 0] ?_)
 intro g31 W32 hg33 ge34 sz35 hb36
 have z37 := hb36.size
 simp only [lay]
 refine lz (ow_st 43 (.tmp 6) (.tmp 13) g31 #[.int .u8 q126, .int .u8 q227, .int .u32 q328, .slice none 0 0] _ _ rfl (by rfl) (by rfl) hg33 (by kernel_rfl) rfl (by kernel_rfl) ?_)
 intro W38 hg39 bs40 hb41
 have z42 := hb41.size
 simp only [lay]
 refine lv (.bool ((kind18 m).2)) (by exact xa) ?_
 simp only [lay]
 refine wn ?_
 refine wp_seq ?_
 refine wp_sr ?_
 refine lv (.bool ((kind18 m).2)) (by exact xm) ?_
 simp only [lay]
 by_cases q43 : (kind18 m).2 = true
 case pos =>
  rw [q43]
  have hkk := hk29 q43
  refine lv (.bool false) (by exact ex_not (b := true) (by rfl) (by rfl)) ?_
  simp only [lay]
  refine wn ?_
  refine cF9 ?_
  refine wp_skip ?_
  change Code.wp _ _ _ _ _
  refine wp_seq ?_
  refine wp_sr ?_
  refine lv (pq9 g1 3) (by exact xf 3 0 Try.underlying43) ?_
  simp only [lay]
  have b44 := bt b22 hb25
  have b47 := (bt b44 hb36).trans (hb41.mono (lq b44 ge34))
  have has48 := hg3.to b47
  refine lv (.slice A m.bl.length c) (by exact xc Try.underlying26 (has48.cell 3 rfl)) ?_
  refine lv (.int .i64 (m.bl.length : Int)) (by exact xz Try.underlying26) ?_
  simp only [lay]
  by_cases q49 : (m.bl.length : Int) > 65527
  case pos =>
   refine lv (.bool true) (by exact ex_gtr (by rfl) (by rfl) (by rfl) (decide_eq_true (by first|assumption|omega|decide))) ?_
   simp only [lay]
   refine wn ?_
   refine cT9 ?_
   refine wp_sr ?_
   refine lv (.agg #[.int .u8 0, .int .u8 0, .int .u32 0, .slice none 0 0]) (by kernel_rfl) ?_
   simp only [lay]
   refine lz (ow_st 43 (.tmp 4) (.tmp 22) g15 #[.int .u8 0, .int .u8 0, .int .u32 0, .slice none 0 0] _ _ rfl (by rfl) (by rfl) (hg17.to ((bt hb25 hb36).trans (hb41.mono (lq hb25 ge34)))) (by kernel_rfl) rfl (by kernel_rfl) ?_)
   intro W50 hg51 bs52 hb53
   have z58 := hb53.size
   have has59 := hg39.but6 bs52 (by omega)
   simp only [lay]
   refine lv (.int .i64 2) (by exact xa) ?_
   simp only [lay]
   refine wn ?_
   refine wp_ret ?_
   try simp only [Exit.then]
   have e : msg18 m s t = (zero7, 2) := by
    unfold msg18
    rw [if_neg (by simp [*])]
    simp only [hkk, hIE, hIL]
    repeat (first|rw [if_pos (by first|assumption|omega)]|rw [if_neg (by first|assumption|omega)])
   have b60 := bt hb6 hb13
   have b62 := bt (bt b60 hb20) hb25
   exact bodyPost_ret (res_cell2 Try.results14 rfl (hg51.load (P := Try.prog) 43 Try.underlying43 rfl (by kernel_rfl)) rfl) rfl ⟨⟨none, 0, by rw [e]; rfl, by rw [e]; exact zero7_ok, by rw [e]; exact OwnB.nil _ _⟩, (((bt b62 hb36).trans (hb41.mono (lq b62 ge34))).trans (hb53.mono (lq b60 ge18)))⟩
  refine lv (.bool false) (by exact ex_gtr (by rfl) (by rfl) (by rfl) (decide_eq_false (by first|assumption|omega|decide))) ?_
  simp only [lay]
  refine wn ?_
  refine cF9 ?_
  refine wp_skip ?_
  change Code.wp _ _ _ _ _
  refine wp_seq ?_
  refine wp_sr ?_
  refine lv (pq9 g1 0) (by exact xf 0 0 Try.underlying43) ?_
  refine lv (.int .u8 m.ty) (by exact xc Try.underlying5 (has48.cell 0 rfl)) ?_
  simp only [lay]
  by_cases q68 : m.ty ≥ 128
  case pos =>
   refine lv (.bool true) (by exact ex_geq (by rfl) (by rfl) (by rfl) (decide_eq_true (by first|assumption|omega|decide))) ?_
   simp only [lay]
   refine wn ?_
   refine cT9 ?_
   refine wp_sr ?_
   refine lz (ow_build0 rfl Try.underlying26 (by kernel_rfl) ?_)
   intro g69 W70 hg71 ge72 sz73 hb74
   have z75 := hb74.size
   have hO76 : OwnB W70 W38.heap.size (sq9 g69 0 0 0) [] := OwnB.blk (l := []) hg71 (Nat.le_of_eq ge72.symm) rfl InB.nil (by simp)
   simp only [lay]
   refine lv (pq9 g1 3) (by exact xf 3 0 Try.underlying43) ?_
   simp only [lay]
   refine lv (.slice A m.bl.length c) (by exact xc Try.underlying26 ((hg3.to (bt b47 hb74)).cell 3 rfl)) ?_
   simp only [lay]
   have b84 := bt hb6 hb13
   have b86 := bt (bt b84 hb20) hb25
   have l88 := lq b86 ge34
   have b89 := (bt b86 hb36).trans (hb41.mono l88)
   have b90 := bt b89 hb74
   have by91 := y.to b90
   refine lz (ow_app (.tmp 26) (.tmp 28) 26 rfl Try.underlying26 info8 _ _ [] rfl hO76 _ _ _ _ m.bl rfl by91 (by simp only [List.length_nil]; omega) hb74.size ?_)
   intro v83 W79 hO80 hb81 hgr82
   have z92 := hb81.size
   have hO93 : OwnB W79 W38.heap.size v83 m.bl := hO80
   obtain ⟨A94, c95, rfl, y96⟩ := hO93.by_
   simp only [lay]
   refine lv (pq9 g31 3) (by exact xf 3 0 Try.underlying43) ?_
   simp only [lay]
   refine lz (ow_st1 26 (.tmp 30) (.tmp 29) g31 3 (.slice A94 m.bl.length c95) _ #[.int .u8 q126, .int .u8 q227, .int .u32 q328, .slice A94 m.bl.length c95] _ rfl (by rfl) (by rfl) rfl (by kernel_rfl) (hg39.to (hb74.trans (hb81.mono (Nat.le_refl _)))) rfl rfl (by kernel_rfl) ?_)
   intro W97 hg98 bs99 hb100
   have z103 := hb100.size
   simp only [lay]
   refine wn ?_
   refine wp_sr ?_
   refine lv (.agg #[.int .u8 q126, .int .u8 q227, .int .u32 q328, .slice A94 m.bl.length c95]) (by exact xo (hg98.load (P := Try.prog) 43 Try.underlying43 rfl (by kernel_rfl))) ?_
   simp only [lay]
   have l110 := lq hb25 ge34
   have b111 := (bt hb25 hb36).trans (hb41.mono l110)
   refine lz (ow_st 43 (.tmp 4) (.tmp 31) g15 #[.int .u8 q126, .int .u8 q227, .int .u32 q328, .slice A94 m.bl.length c95] _ _ rfl (by rfl) (by rfl) (hg17.to (((bt b111 hb74).trans (hb81.mono (Nat.le_trans b111.size (Nat.le_refl _)))).trans (hb100.mono l110))) (by kernel_rfl) rfl (by kernel_rfl) ?_)
   intro W105 hg106 bs107 hb108
   have z117 := hb108.size
   have own118 := (hO93.but6 bs99 (by omega)).but6 bs107 (by omega)
   have has119 := hg98.but6 bs107 (by omega)
   simp only [lay]
   refine lv (.int .i64 0) (by exact xa) ?_
   simp only [lay]
   refine wn ?_
   refine wp_ret ?_
   try simp only [Exit.then]
   have e : msg18 m s t = (⟨q126, q227, q328, m.bl⟩, 0) := by
    unfold msg18
    rw [if_neg (by simp [*])]
    simp only [hkk, hIE, hIL]
    repeat (first|rw [if_pos (by first|assumption|omega)]|rw [if_neg (by first|assumption|omega)])
   have hok : (⟨q126, q227, q328, m.bl⟩ : D7).ok := by have := kind18_ok hR.ok (m.bl); rw [hkk] at this; exact this
   have hcs : (#[.int .u8 q126, .int .u8 q227, .int .u32 q328, .slice A94 m.bl.length c95] : Array Value) = (⟨q126, q227, q328, m.bl⟩ : D7).cells A94 c95 := by
    show _ = (#[.int .u8 q126, .int .u8 q227, .int .u32 q328, .slice A94 (m.bl).length c95] : Array Value)
    rw [← own_len own118]
   have h4 := hg106
   rw [hcs] at h4
   have hO4 := own_norm (own118.more b89.size)
   exact bodyPost_ret (res_cell2 Try.results14 rfl (h4.load (P := Try.prog) 43 Try.underlying43 rfl (by kernel_rfl)) rfl) rfl ⟨⟨A94, c95, by rw [e]; rfl, by rw [e]; exact hok, by rw [e]; exact hO4⟩, (((b90.trans (hb81.mono (Nat.le_trans b89.size (Nat.le_refl _)))).trans (hb100.mono l88)).trans (hb108.mono (lq b84 ge18)))⟩
  refine lv (.bool false) (by exact ex_geq (by rfl) (by rfl) (by rfl) (decide_eq_false (by first|assumption|omega|decide))) ?_
  simp only [lay]
  refine wn ?_
  refine cF9 ?_
  refine wp_skip ?_
  change Code.wp _ _ _ _ _
  refine wp_sr ?_
  refine lv (pq9 g1 3) (by exact xf 3 0 Try.underlying43) ?_
  refine lv (.slice A m.bl.length c) (by exact xc Try.underlying26 (has48.cell 3 rfl)) ?_
  simp only [lay]
  have b125 := bt hb20 hb25
  refine lv (.agg (e4c s t)) (by exact xo ((hg10.to ((bt b125 hb36).trans (hb41.mono (lq b125 ge34)))).load (P := Try.prog) 32 Try.underlying32 rfl (by kernel_rfl))) ?_
  simp only [lay]
  have b130 := bt hb6 hb13
  have b132 := bt (bt b130 hb20) hb25
  have l134 := lq b132 ge34
  have b135 := (bt b132 hb36).trans (hb41.mono l134)
  have by136 := y.to b135
  refine lz (ow_call (fun v w' => (∃ u, v = .tuple #[u, .int .i64 IE] ∧ OwnB w' W38.heap.size u IL) ∧ Below W38.heap.size W38 w') (by exact xk Try.func17) ((rInside18_any _ _ _ _ _ _ hE W38 by136).mono (by rintro e w' ⟨⟨v, rfl, ho⟩, hb⟩; exact ⟨_, rfl, ⟨v, by rw [hIE], by rw [← hIL]; exact ho⟩, hb⟩)) ?_)
  rintro _ W137 ⟨⟨u139, rfl, hO140⟩, hb138⟩
  have z141 := hb138.size
  obtain ⟨A142, c143, rfl, y144⟩ := hO140.by_
  simp only [lay]
  refine lv (.tuple #[.slice A142 IL.length c143, .int .i64 IE]) (by exact xm) ?_
  refine lv (.slice A142 IL.length c143) (by exact xe) ?_
  refine lv (.int .i64 IE) (by exact xe) ?_
  refine lv (.slice A142 IL.length c143) (by exact xa) ?_
  simp only [lay]
  refine lv (.int .i64 IE) (by exact xa) ?_
  simp only [lay]
  refine wn ?_
  refine wp_seq ?_
  refine wp_sr ?_
  refine lv (.int .i64 IE) (by exact xm) ?_
  simp only [lay]
  by_cases q145 : IE = 0
  case pos =>
   refine lv (.bool false) (by exact neq_int_eq (by rfl) (by rfl) (by rfl) (by first|assumption|omega)) ?_
   simp only [lay]
   refine wn ?_
   refine cF9 ?_
   refine wp_skip ?_
   change Code.wp _ _ _ _ _
   refine wp_sr ?_
   refine lv (.slice A142 IL.length c143) (by exact xm) ?_
   refine lv (.slice A142 IL.length c143) (by exact xm) ?_
   refine lv (.int .i64 (IL.length : Int)) (by exact xz Try.underlying26) ?_
   simp only [lay]
   by_cases q146 : (IL.length : Int) ≤ 548
   case pos =>
    refine lv (.int .i64 (IL.length : Int)) (by exact ex_min (r := (IL.length : Int)) (by rfl) (by rfl) (by rfl) (by first|rw [if_pos (by omega)]|rw [if_neg (by omega)]|(split <;> omega))) ?_
    simp only [lay]
    have y148 := (own_byS hO140)
    have y147 := y148.to_ (P := Try.prog) 26 Try.underlying26 (by kernel_rfl) (k := IL.length) (by omega)
    have hO149 := hO140.take (k := IL.length) (by omega)
    refine lv (.slice A142 IL.length c143) (by exact ex_slice (by rfl) (by rfl) (y147.1 _)) ?_
    refine lv (pq9 g31 3) (by exact xf 3 0 Try.underlying43) ?_
    simp only [lay]
    refine lz (ow_st1 26 (.tmp 48) (.tmp 47) g31 3 (.slice A142 IL.length c143) _ #[.int .u8 q126, .int .u8 q227, .int .u32 q328, .slice A142 IL.length c143] _ rfl (by rfl) (by rfl) rfl (by kernel_rfl) (hg39.to hb138) rfl rfl (by kernel_rfl) ?_)
    intro W150 hg151 bs152 hb153
    have z155 := hb153.size
    simp only [lay]
    refine wn ?_
    refine wp_sr ?_
    refine lv (.agg #[.int .u8 q126, .int .u8 q227, .int .u32 q328, .slice A142 IL.length c143]) (by exact xo (hg151.load (P := Try.prog) 43 Try.underlying43 rfl (by kernel_rfl))) ?_
    simp only [lay]
    have l163 := lq hb25 ge34
    refine lz (ow_st 43 (.tmp 4) (.tmp 49) g15 #[.int .u8 q126, .int .u8 q227, .int .u32 q328, .slice A142 IL.length c143] _ _ rfl (by rfl) (by rfl) (hg17.to ((bt ((bt hb25 hb36).trans (hb41.mono l163)) hb138).trans (hb153.mono l163))) (by kernel_rfl) rfl (by kernel_rfl) ?_)
    intro W158 hg159 bs160 hb161
    have z168 := hb161.size
    have own169 := (hO140.but6 bs152 (by omega)).but6 bs160 (by omega)
    have own170 := (hO149.but6 bs152 (by omega)).but6 bs160 (by omega)
    have has171 := hg151.but6 bs160 (by omega)
    simp only [lay]
    refine lv (.int .i64 0) (by exact xa) ?_
    simp only [lay]
    refine wn ?_
    refine wp_ret ?_
    try simp only [Exit.then]
    have e : msg18 m s t = (⟨q126, q227, q328, IL.take IL.length⟩, 0) := by
     unfold msg18
     rw [if_neg (by simp [*])]
     simp only [hkk, hIE, hIL]
     repeat (first|rw [if_pos (by first|assumption|omega)]|rw [if_neg (by first|assumption|omega)])
     rw [List.take_of_length_le (show IL.length ≤ 548 from by omega), List.take_length]
    have hok : (⟨q126, q227, q328, IL.take IL.length⟩ : D7).ok := by have := kind18_ok hR.ok (IL.take IL.length); rw [hkk] at this; exact this
    have hcs : (#[.int .u8 q126, .int .u8 q227, .int .u32 q328, .slice A142 IL.length c143] : Array Value) = (⟨q126, q227, q328, IL.take IL.length⟩ : D7).cells A142 c143 := by
     show _ = (#[.int .u8 q126, .int .u8 q227, .int .u32 q328, .slice A142 (IL.take IL.length).length c143] : Array Value)
     rw [← own_len own170]
    have h4 := hg159
    rw [hcs] at h4
    have hO4 := own_norm (own170.more b135.size)
    exact bodyPost_ret (res_cell2 Try.results14 rfl (h4.load (P := Try.prog) 43 Try.underlying43 rfl (by kernel_rfl)) rfl) rfl ⟨⟨A142, c143, by rw [e]; rfl, by rw [e]; exact hok, by rw [e]; exact hO4⟩, (((bt b135 hb138).trans (hb153.mono l134)).trans (hb161.mono (lq b130 ge18)))⟩
   refine lv (.int .i64 548) (by exact ex_min (r := 548) (by rfl) (by rfl) (by rfl) (by first|rw [if_pos (by omega)]|rw [if_neg (by omega)]|(split <;> omega))) ?_
   simp only [lay]
   have y177 := (own_byS hO140)
   have y176 := y177.to_ (P := Try.prog) 26 Try.underlying26 (by kernel_rfl) (k := 548) (by omega)
   have hO178 := hO140.take (k := 548) (by omega)
   refine lv (.slice A142 548 c143) (by exact ex_slice (by rfl) (by rfl) (y176.1 _)) ?_
   refine lv (pq9 g31 3) (by exact xf 3 0 Try.underlying43) ?_
   simp only [lay]
   refine lz (ow_st1 26 (.tmp 48) (.tmp 47) g31 3 (.slice A142 548 c143) _ #[.int .u8 q126, .int .u8 q227, .int .u32 q328, .slice A142 548 c143] _ rfl (by rfl) (by rfl) rfl (by kernel_rfl) (hg39.to hb138) rfl rfl (by kernel_rfl) ?_)
   intro W179 hg180 bs181 hb182
   have z184 := hb182.size
   simp only [lay]
   refine wn ?_
   refine wp_sr ?_
   refine lv (.agg #[.int .u8 q126, .int .u8 q227, .int .u32 q328, .slice A142 548 c143]) (by exact xo (hg180.load (P := Try.prog) 43 Try.underlying43 rfl (by kernel_rfl))) ?_
   simp only [lay]
   have l192 := lq hb25 ge34
   refine lz (ow_st 43 (.tmp 4) (.tmp 49) g15 #[.int .u8 q126, .int .u8 q227, .int .u32 q328, .slice A142 548 c143] _ _ rfl (by rfl) (by rfl) (hg17.to ((bt ((bt hb25 hb36).trans (hb41.mono l192)) hb138).trans (hb182.mono l192))) (by kernel_rfl) rfl (by kernel_rfl) ?_)
   intro W187 hg188 bs189 hb190
   have z197 := hb190.size
   have own198 := (hO140.but6 bs181 (by omega)).but6 bs189 (by omega)
   have own199 := (hO178.but6 bs181 (by omega)).but6 bs189 (by omega)
   have has200 := hg180.but6 bs189 (by omega)
   simp only [lay]
   refine lv (.int .i64 0) (by exact xa) ?_
   simp only [lay]
   refine wn ?_
   refine wp_ret ?_
   try simp only [Exit.then]
   have e : msg18 m s t = (⟨q126, q227, q328, IL.take 548⟩, 0) := by
    unfold msg18
    rw [if_neg (by simp [*])]
    simp only [hkk, hIE, hIL]
    repeat (first|rw [if_pos (by first|assumption|omega)]|rw [if_neg (by first|assumption|omega)])
   have hok : (⟨q126, q227, q328, IL.take 548⟩ : D7).ok := by have := kind18_ok hR.ok (IL.take 548); rw [hkk] at this; exact this
   have hcs : (#[.int .u8 q126, .int .u8 q227, .int .u32 q328, .slice A142 548 c143] : Array Value) = (⟨q126, q227, q328, IL.take 548⟩ : D7).cells A142 c143 := by
    show _ = (#[.int .u8 q126, .int .u8 q227, .int .u32 q328, .slice A142 (IL.take 548).length c143] : Array Value)
    rw [← own_len own199]
   have h4 := hg188
   rw [hcs] at h4
   have hO4 := own_norm (own199.more b135.size)
   exact bodyPost_ret (res_cell2 Try.results14 rfl (h4.load (P := Try.prog) 43 Try.underlying43 rfl (by kernel_rfl)) rfl) rfl ⟨⟨A142, c143, by rw [e]; rfl, by rw [e]; exact hok, by rw [e]; exact hO4⟩, (((bt b135 hb138).trans (hb182.mono l134)).trans (hb190.mono (lq b130 ge18)))⟩
  refine lv (.bool true) (by exact neq_int_ne (by rfl) (by rfl) (by rfl) (by first|assumption|omega)) ?_
  simp only [lay]
  refine wn ?_
  refine cT9 ?_
  refine wp_sr ?_
  refine lv (.agg #[.int .u8 0, .int .u8 0, .int .u32 0, .slice none 0 0]) (by kernel_rfl) ?_
  refine lv (.int .i64 IE) (by exact xm) ?_
  simp only [lay]
  refine lz (ow_st 43 (.tmp 4) (.tmp 41) g15 #[.int .u8 0, .int .u8 0, .int .u32 0, .slice none 0 0] _ _ rfl (by rfl) (by rfl) (hg17.to (bt ((bt hb25 hb36).trans (hb41.mono (lq hb25 ge34))) hb138)) (by kernel_rfl) rfl (by kernel_rfl) ?_)
  intro W205 hg206 bs207 hb208
  have z215 := hb208.size
  have has216 := (hg39.to hb138).but6 bs207 (by omega)
  have own217 := hO140.but6 bs207 (by omega)
  simp only [lay]
  refine lv (.int .i64 IE) (by exact xa) ?_
  simp only [lay]
  refine wn ?_
  refine wp_ret ?_
  try simp only [Exit.then]
  have e : msg18 m s t = (zero7, IE) := by
   unfold msg18
   rw [if_neg (by simp [*])]
   simp only [hkk, hIE, hIL]
   repeat (first|rw [if_pos (by first|assumption|omega)]|rw [if_neg (by first|assumption|omega)])
  exact bodyPost_ret (res_cell2 Try.results14 rfl (hg206.load (P := Try.prog) 43 Try.underlying43 rfl (by kernel_rfl)) rfl) rfl ⟨⟨none, 0, by rw [e]; rfl, by rw [e]; exact zero7_ok, by rw [e]; exact OwnB.nil _ _⟩, ((bt b135 hb138).trans (hb208.mono (lq b130 ge18)))⟩
 replace q43 := eq_false_of_ne_true q43
 rw [q43]
 refine lv (.bool true) (by exact ex_not (b := false) (by rfl) (by rfl)) ?_
 simp only [lay]
 refine wn ?_
 refine cT9 ?_
 refine wp_sr ?_
 refine lv (.agg #[.int .u8 0, .int .u8 0, .int .u32 0, .slice none 0 0]) (by kernel_rfl) ?_
 simp only [lay]
 refine lz (ow_st 43 (.tmp 4) (.tmp 17) g15 #[.int .u8 0, .int .u8 0, .int .u32 0, .slice none 0 0] _ _ rfl (by rfl) (by rfl) (hg17.to ((bt hb25 hb36).trans (hb41.mono (lq hb25 ge34)))) (by kernel_rfl) rfl (by kernel_rfl) ?_)
 intro W221 hg222 bs223 hb224
 have z229 := hb224.size
 have has230 := hg39.but6 bs223 (by omega)
 simp only [lay]
 refine lv (.int .i64 175) (by exact xa) ?_
 simp only [lay]
 refine wn ?_
 refine wp_ret ?_
 try simp only [Exit.then]
 have e : msg18 m s t = (zero7, 175) := by
  unfold msg18
  rw [if_pos (by assumption)]
 have b231 := bt hb6 hb13
 have b233 := bt (bt b231 hb20) hb25
 exact bodyPost_ret (res_cell2 Try.results14 rfl (hg222.load (P := Try.prog) 43 Try.underlying43 rfl (by kernel_rfl)) rfl) rfl ⟨⟨none, 0, by rw [e]; rfl, by rw [e]; exact zero7_ok, by rw [e]; exact OwnB.nil _ _⟩, (((bt b233 hb36).trans (hb41.mono (lq b233 ge34))).trans (hb224.mono (lq b231 ge18)))⟩
set_option maxRecDepth 100000 in
set_option maxHeartbeats 8000000 in
theorem ricmp18_any (d : D6) (p : W6) (s' t' : List Int) (hE' : E4ok s' t') (w : World) (hR : Rd6 w.heap.size w d p) :
  Calls Try.prog 40 #[.agg (d.cells p), .agg (e4c s' t')] w fun e w' => TwoR (icmp18 d s' t') w.heap.size w' e ∧ Below w.heap.size w w' := by
 obtain ⟨M, hM⟩ : ∃ x, parse7 d.bl (ps18 d) = x := ⟨_, rfl⟩
 obtain ⟨PE, hPE⟩ : ∃ x, perr7 d.bl (ps18 d) = x := ⟨_, rfl⟩
 obtain ⟨MR, hMR⟩ : ∃ x, (msg18 M s' t').1 = x := ⟨_, rfl⟩
 obtain ⟨ME, hME⟩ : ∃ x, (msg18 M s' t').2 = x := ⟨_, rfl⟩
 have hM2 : parse7 d.bl (pse6 d.src d.dst (d.bl.length : Int) 58) = M := hM
 have hPE2 : perr7 d.bl (pse6 d.src d.dst (d.bl.length : Int) 58) = PE := hPE
 have yb6 := hR.body
 have hlb := yb6.len
 go_enter Try.func40, Try.ntmps40
 refine wp_sr ?_
 refine lz (ow_box 28 (.tmp 0) _ rfl rfl ?_)
 intro g1 W2 hg3 ge4 sz5 hb6
 have z7 := hb6.size
 simp only [lay]
 refine lz (ow_box 32 (.tmp 1) _ rfl rfl ?_)
 intro g8 W9 hg10 ge11 sz12 hb13
 have z14 := hb13.size
 simp only [lay]
 refine lv (.slice none 0 0) (by exact xa) ?_
 refine lv (.int .i64 0) (by exact xa) ?_
 simp only [lay]
 refine wn ?_
 refine wp_seq ?_
 refine wp_sr ?_
 refine lv (.agg (d.cells p)) (by exact xo ((hg3.to hb13).load (P := Try.prog) 28 Try.underlying28 rfl (by kernel_rfl))) ?_
 simp only [lay]
 refine lz (ow_call (fun v w' => v = .bool (d.part) ∧ Below W9.heap.size W9 w') (by exact xk Try.func62) ((rfragment18_any d p W9).mono fun e w' h => ⟨_, h.1, rfl, h.2⟩) ?_)
 rintro _ W16 ⟨rfl, hb17⟩
 have z18 := hb17.size
 simp only [lay]
 refine wn ?_
 by_cases q19 : d.part = true
 case pos =>
  rw [q19]
  refine cT9 ?_
  refine wp_sr ?_
  refine lv (.slice none 0 0) (by exact xa) ?_
  refine lv (.int .i64 174) (by exact xa) ?_
  simp only [lay]
  refine wn ?_
  refine wp_ret ?_
  try simp only [Exit.then]
  have e : icmp18 d s' t' = ([], 174) := by
   unfold icmp18
   simp only [hM, hPE, hMR, hME]
   repeat (first|rw [if_pos (by first|assumption|omega)]|rw [if_neg (by first|assumption|omega|exact ne_true_of_eq_false (by assumption))])
  exact bodyPost_ret (res_tt Try.results40 rfl rfl) rfl ⟨TwoR.ok e (OwnB.nil _ _), (bt (bt hb6 hb13) hb17)⟩
 replace q19 := eq_false_of_ne_true q19
 rw [q19]
 refine cF9 ?_
 refine wp_skip ?_
 change Code.wp _ _ _ _ _
 refine wp_sr ?_
 refine lv (pq9 g1 3) (by exact xf 3 15 Try.underlying28) ?_
 simp only [lay]
 have has23 := hg3.to (bt hb13 hb17)
 refine lv (.agg #[.int .u8 (d.src.getD 0 0), .int .u8 (d.src.getD 1 0), .int .u8 (d.src.getD 2 0), .int .u8 (d.src.getD 3 0), .int .u8 (d.src.getD 4 0), .int .u8 (d.src.getD 5 0), .int .u8 (d.src.getD 6 0), .int .u8 (d.src.getD 7 0), .int .u8 (d.src.getD 8 0), .int .u8 (d.src.getD 9 0), .int .u8 (d.src.getD 10 0), .int .u8 (d.src.getD 11 0), .int .u8 (d.src.getD 12 0), .int .u8 (d.src.getD 13 0), .int .u8 (d.src.getD 14 0), .int .u8 (d.src.getD 15 0)]) (by exact ex_loadAt (by rfl) (by rfl) (has23.loadIn (P := Try.prog) 3 [.int .u8 (d.src.getD 0 0), .int .u8 (d.src.getD 1 0), .int .u8 (d.src.getD 2 0), .int .u8 (d.src.getD 3 0), .int .u8 (d.src.getD 4 0), .int .u8 (d.src.getD 5 0), .int .u8 (d.src.getD 6 0), .int .u8 (d.src.getD 7 0), .int .u8 (d.src.getD 8 0), .int .u8 (d.src.getD 9 0), .int .u8 (d.src.getD 10 0), .int .u8 (d.src.getD 11 0), .int .u8 (d.src.getD 12 0), .int .u8 (d.src.getD 13 0), .int .u8 (d.src.getD 14 0), .int .u8 (d.src.getD 15 0)] (by kernel_rfl) 24 Try.underlying24 rfl (by kernel_rfl))) ?_
 refine lv (pq9 g1 19) (by exact xf 19 15 Try.underlying28) ?_
 refine lv (.agg #[.int .u8 (d.dst.getD 0 0), .int .u8 (d.dst.getD 1 0), .int .u8 (d.dst.getD 2 0), .int .u8 (d.dst.getD 3 0), .int .u8 (d.dst.getD 4 0), .int .u8 (d.dst.getD 5 0), .int .u8 (d.dst.getD 6 0), .int .u8 (d.dst.getD 7 0), .int .u8 (d.dst.getD 8 0), .int .u8 (d.dst.getD 9 0), .int .u8 (d.dst.getD 10 0), .int .u8 (d.dst.getD 11 0), .int .u8 (d.dst.getD 12 0), .int .u8 (d.dst.getD 13 0), .int .u8 (d.dst.getD 14 0), .int .u8 (d.dst.getD 15 0)]) (by exact ex_loadAt (by rfl) (by rfl) (has23.loadIn (P := Try.prog) 19 [.int .u8 (d.dst.getD 0 0), .int .u8 (d.dst.getD 1 0), .int .u8 (d.dst.getD 2 0), .int .u8 (d.dst.getD 3 0), .int .u8 (d.dst.getD 4 0), .int .u8 (d.dst.getD 5 0), .int .u8 (d.dst.getD 6 0), .int .u8 (d.dst.getD 7 0), .int .u8 (d.dst.getD 8 0), .int .u8 (d.dst.getD 9 0), .int .u8 (d.dst.getD 10 0), .int .u8 (d.dst.getD 11 0), .int .u8 (d.dst.getD 12 0), .int .u8 (d.dst.getD 13 0), .int .u8 (d.dst.getD 14 0), .int .u8 (d.dst.getD 15 0)] (by kernel_rfl) 24 Try.underlying24 rfl (by kernel_rfl))) ?_
 refine lv (pq9 g1 41) (by exact xf 41 0 Try.underlying28) ?_
 simp only [lay]
 refine lv (.slice p.bA d.bl.length p.bc) (by exact xc Try.underlying26 (has23.cell 41 rfl)) ?_
 simp only [lay]
 have b25 := bt (bt hb6 hb13) hb17
 have by26 := yb6.to b25
 refine lz (ow_call (fun v w' => (∃ A' c', v = .tuple #[.agg (M.cells A' c'), .int .i64 PE] ∧ M.ok ∧ OwnB w' W16.heap.size (.slice A' M.bl.length c') M.bl) ∧ Below W16.heap.size W16 w') (by exact xk Try.func63) ((rparse6m_any d.src d.dst ⟨hR.ok.srcL, hR.ok.src, hR.ok.dstL, hR.ok.dst⟩ _ _ _ _ W16 by26).mono (by rintro e w' ⟨⟨A', c', rfl, hk, ho⟩, hb⟩; rw [hM2] at hk ho; exact ⟨_, rfl, ⟨A', c', by rw [hM2, hPE2], hk, ho⟩, hb⟩)) ?_)
 rintro _ W27 ⟨⟨A29, c30, rfl, hk31, hO32⟩, hb28⟩
 have z33 := hb28.size
 simp only [lay]
 refine lv (.tuple #[.agg (M.cells A29 c30), .int .i64 PE]) (by exact xm) ?_
 refine lv (.agg (M.cells A29 c30)) (by exact xe) ?_
 refine lv (.int .i64 PE) (by exact xe) ?_
 simp only [lay]
 refine lz (oa #[.int .u8 0, .int .u8 0, .int .u32 0, .slice none 0 0] ?_)
 intro g34 W35 hg36 ge37 sz38 hb39
 have z40 := hb39.size
 simp only [lay]
 refine lz (ow_st 43 (.tmp 6) (.tmp 22) g34 (M.cells A29 c30) _ _ rfl (by rfl) (by rfl) hg36 (by kernel_rfl) rfl (by kernel_rfl) ?_)
 intro W41 hg42 bs43 hb44
 have z45 := hb44.size
 simp only [lay]
 refine lv (.int .i64 PE) (by exact xa) ?_
 simp only [lay]
 refine wn ?_
 refine wp_seq ?_
 refine wp_sr ?_
 refine lv (.int .i64 PE) (by exact xm) ?_
 simp only [lay]
 by_cases q46 : PE = 0
 case pos =>
  refine lv (.bool false) (by exact neq_int_eq (by rfl) (by rfl) (by rfl) (by first|assumption|omega)) ?_
  simp only [lay]
  refine wn ?_
  refine cF9 ?_
  refine wp_skip ?_
  change Code.wp _ _ _ _ _
  refine wp_sr ?_
  refine lv (.agg (M.cells A29 c30)) (by exact xo (hg42.load (P := Try.prog) 43 Try.underlying43 rfl (by kernel_rfl))) ?_
  simp only [lay]
  have b47 := bt hb17 hb28
  refine lv (.agg (e4c s' t')) (by exact xo ((hg10.to ((bt b47 hb39).trans (hb44.mono (lq b47 ge37)))).load (P := Try.prog) 32 Try.underlying32 rfl (by kernel_rfl))) ?_
  simp only [lay]
  have l52 : W27.heap.size ≤ g34 := Nat.le_of_eq ge37.symm
  refine lz (ow_call (fun v w' => (∃ A' c', v = .tuple #[.agg (MR.cells A' c'), .int .i64 ME] ∧ MR.ok ∧ OwnB w' W41.heap.size (.slice A' MR.bl.length c') MR.bl) ∧ Below W41.heap.size W41 w') (by exact xk Try.func14) ((rmsg18_any M _ _ s' t' hE' W41 ⟨hk31, (own_byS (hO32.to (hb39.trans (hb44.mono l52))))⟩).mono (by rintro e w' ⟨⟨A, c, rfl, hk, ho⟩, hb⟩; rw [hMR] at hk ho; exact ⟨_, rfl, ⟨A, c, by rw [hMR, hME], hk, ho⟩, hb⟩)) ?_)
  rintro _ W55 ⟨⟨A57, c58, rfl, hk59, hO60⟩, hb56⟩
  have z61 := hb56.size
  simp only [lay]
  refine lv (.tuple #[.agg (MR.cells A57 c58), .int .i64 ME]) (by exact xm) ?_
  refine lv (.agg (MR.cells A57 c58)) (by exact xe) ?_
  refine lv (.int .i64 ME) (by exact xe) ?_
  simp only [lay]
  refine lz (oa #[.int .u8 0, .int .u8 0, .int .u32 0, .slice none 0 0] ?_)
  intro g62 W63 hg64 ge65 sz66 hb67
  have z68 := hb67.size
  simp only [lay]
  refine lz (ow_st 43 (.tmp 8) (.tmp 31) g62 (MR.cells A57 c58) _ _ rfl (by rfl) (by rfl) hg64 (by kernel_rfl) rfl (by kernel_rfl) ?_)
  intro W69 hg70 bs71 hb72
  have z73 := hb72.size
  simp only [lay]
  refine lv (.int .i64 ME) (by exact xa) ?_
  simp only [lay]
  refine wn ?_
  refine wp_seq ?_
  refine wp_sr ?_
  refine lv (.int .i64 ME) (by exact xm) ?_
  simp only [lay]
  by_cases q74 : ME = 0
  case pos =>
   have herr : MR.err = 0 := by rw [D7.err, if_neg (by have := msg18_len (m := M) (s := s') (t := t'); rw [hMR] at this; omega)]
   refine lv (.bool false) (by exact neq_int_eq (by rfl) (by rfl) (by rfl) (by first|assumption|omega)) ?_
   simp only [lay]
   refine wn ?_
   refine cF9 ?_
   refine wp_skip ?_
   change Code.wp _ _ _ _ _
   refine wp_sr ?_
   refine lv (.agg (MR.cells A57 c58)) (by exact xo (hg70.load (P := Try.prog) 43 Try.underlying43 rfl (by kernel_rfl))) ?_
   simp only [lay]
   have l75 : W55.heap.size ≤ g62 := Nat.le_of_eq ge65.symm
   refine lz (ow_call (fun v w' => (∃ u, v = .tuple #[u, .int .i64 0] ∧ OwnB w' W69.heap.size u (MR.write [])) ∧ Below W69.heap.size W69 w') (by exact xk Try.func75) ((rwrite4m_any MR _ _ W69 ⟨hk59, (own_byS (hO60.to (hb67.trans (hb72.mono l75))))⟩).mono (by rintro e w' ⟨⟨v, rfl, ho⟩, hb⟩; exact ⟨_, rfl, ⟨v, by rw [herr], ho⟩, hb⟩)) ?_)
   rintro _ W78 ⟨⟨u80, rfl, hO81⟩, hb79⟩
   have z82 := hb79.size
   obtain ⟨A83, c84, rfl, y85⟩ := hO81.by_
   simp only [lay]
   refine lv (.tuple #[.slice A83 ((MR.write []).length) c84, .int .i64 0]) (by exact xm) ?_
   refine lv (.slice A83 ((MR.write []).length) c84) (by exact xe) ?_
   refine lv (.int .i64 0) (by exact xe) ?_
   refine lv (.slice A83 ((MR.write []).length) c84) (by exact xa) ?_
   simp only [lay]
   refine lv (.int .i64 0) (by exact xa) ?_
   simp only [lay]
   refine wn ?_
   refine wp_sr ?_
   refine lv (.slice A83 ((MR.write []).length) c84) (by exact xm) ?_
   refine lv (.int .i64 0) (by exact xm) ?_
   refine lv (.slice A83 ((MR.write []).length) c84) (by exact xa) ?_
   refine lv (.int .i64 0) (by exact xa) ?_
   simp only [lay]
   refine wn ?_
   refine wp_ret ?_
   try simp only [Exit.then]
   have b86 := bt b25 hb28
   have b90 := bt ((bt b86 hb39).trans (hb44.mono (lq b86 ge37))) hb56
   have b93 := (bt b90 hb67).trans (hb72.mono (lq b90 ge65))
   have e : icmp18 d s' t' = (MR.write [], 0) := by
    unfold icmp18
    simp only [hM, hPE, hMR, hME]
    repeat (first|rw [if_pos (by first|assumption|omega)]|rw [if_neg (by first|assumption|omega|exact ne_true_of_eq_false (by assumption))])
   exact bodyPost_ret (res_tt Try.results40 rfl rfl) rfl ⟨TwoR.ok e (hO81.more b93.size), (bt b93 hb79)⟩
  refine lv (.bool true) (by exact neq_int_ne (by rfl) (by rfl) (by rfl) (by first|assumption|omega)) ?_
  simp only [lay]
  refine wn ?_
  refine cT9 ?_
  refine wp_sr ?_
  refine lv (.int .i64 ME) (by exact xm) ?_
  refine lv (.slice none 0 0) (by exact xa) ?_
  refine lv (.int .i64 ME) (by exact xa) ?_
  simp only [lay]
  refine wn ?_
  refine wp_ret ?_
  try simp only [Exit.then]
  have e : icmp18 d s' t' = ([], ME) := by
   unfold icmp18
   simp only [hM, hPE, hMR, hME]
   repeat (first|rw [if_pos (by first|assumption|omega)]|rw [if_neg (by first|assumption|omega|exact ne_true_of_eq_false (by assumption))])
  have b95 := bt b25 hb28
  have b99 := bt ((bt b95 hb39).trans (hb44.mono (lq b95 ge37))) hb56
  exact bodyPost_ret (res_tt Try.results40 rfl rfl) rfl ⟨TwoR.ok e (OwnB.nil _ _), ((bt b99 hb67).trans (hb72.mono (lq b99 ge65)))⟩
 refine lv (.bool true) (by exact neq_int_ne (by rfl) (by rfl) (by rfl) (by first|assumption|omega)) ?_
 simp only [lay]
 refine wn ?_
 refine cT9 ?_
 refine wp_sr ?_
 refine lv (.int .i64 PE) (by exact xm) ?_
 refine lv (.slice none 0 0) (by exact xa) ?_
 refine lv (.int .i64 PE) (by exact xa) ?_
 simp only [lay]
 refine wn ?_
 refine wp_ret ?_
 try simp only [Exit.then]
 have e : icmp18 d s' t' = ([], PE) := by
  unfold icmp18
  simp only [hM, hPE, hMR, hME]
  repeat (first|rw [if_pos (by first|assumption|omega)]|rw [if_neg (by first|assumption|omega|exact ne_true_of_eq_false (by assumption))])
 have b103 := bt b25 hb28
 exact bodyPost_ret (res_tt Try.results40 rfl rfl) rfl ⟨TwoR.ok e (OwnB.nil _ _), ((bt b103 hb39).trans (hb44.mono (lq b103 ge37)))⟩
set_option maxRecDepth 100000 in
set_option maxHeartbeats 8000000 in
theorem rpack18_any (d : D6) (p : W6) (s t s' t' : List Int) (hE : E4ok s t) (hE' : E4ok s' t') (w : World) (hR : Rd6 w.heap.size w d p) :
  Calls Try.prog 10 #[.agg (d.cells p), .agg (e4c s t), .agg (e4c s' t')] w fun e w' => ToldP18 (pack18 d s t s' t') w.heap.size w' e ∧ Below w.heap.size w w' := by
 obtain ⟨BL, hBL⟩ : ∃ x, (body18 d s t).1 = x := ⟨_, rfl⟩
 obtain ⟨BE, hBE⟩ : ∃ x, (body18 d s t).2 = x := ⟨_, rfl⟩
 obtain ⟨IL, hIL⟩ : ∃ x, (icmp18 d s' t').1 = x := ⟨_, rfl⟩
 obtain ⟨IE, hIE⟩ : ∃ x, (icmp18 d s' t').2 = x := ⟨_, rfl⟩
 have yb6 := hR.body
 have hlb := yb6.len
 go_enter Try.func10, Try.ntmps10
 refine wp_sr ?_
 refine lz (ow_box 28 (.tmp 0) _ rfl rfl ?_)
 intro g1 W2 hg3 ge4 sz5 hb6
 have z7 := hb6.size
 simp only [lay]
 refine lz (ow_box 32 (.tmp 1) _ rfl rfl ?_)
 intro g8 W9 hg10 ge11 sz12 hb13
 have z14 := hb13.size
 simp only [lay]
 refine lz (ow_box 32 (.tmp 2) _ rfl rfl ?_)
 intro g15 W16 hg17 ge18 sz19 hb20
 have z21 := hb20.size
 simp only [lay]
 refine lz (oa (v17 0 0 false false 0 0 0 [] [] (.slice none 0 0) (.slice none 0 0)) ?_)
 intro g22 W23 hg24 ge25 sz26 hb27
 have z28 := hb27.size
 simp only [lay]
 refine lv (.int .i64 0) (by exact xa) ?_
 simp only [lay]
 refine wn ?_
 refine wp_sr ?_
 have b30 := bt (bt hb13 hb20) hb27
 refine lv (.agg (d.cells p)) (by exact xo ((hg3.to b30).load (P := Try.prog) 28 Try.underlying28 rfl (by kernel_rfl))) ?_
 simp only [lay]
 have b33 := bt (bt hb6 hb13) hb20
 have b34 := bt b33 hb27
 have rd35 := hR.to b34
 refine lz (ow_call (fun v w' => v = .int .i64 d.check ∧ Below W23.heap.size W23 w') (by exact xk Try.func36) (rcheck6_x rd35) ?_)
 rintro _ W36 ⟨rfl, hb37⟩
 have z38 := hb37.size
 simp only [lay]
 refine lv (.int .i64 d.check) (by exact xa) ?_
 simp only [lay]
 refine wn ?_
 refine wp_seq ?_
 refine wp_sr ?_
 refine lv (.int .i64 d.check) (by exact xm) ?_
 simp only [lay]
 by_cases q39 : d.check = 0
 case pos =>
  obtain ⟨hokh, hof, hbl⟩ := check18 q39
  refine lv (.bool false) (by exact neq_int_eq (by rfl) (by rfl) (by rfl) (by first|assumption|omega)) ?_
  simp only [lay]
  refine wn ?_
  refine cF9 ?_
  refine wp_skip ?_
  change Code.wp _ _ _ _ _
  refine wp_seq ?_
  refine wp_sr ?_
  have b40 := bt b30 hb37
  refine lv (.agg (d.cells p)) (by exact xo ((hg3.to b40).load (P := Try.prog) 28 Try.underlying28 rfl (by kernel_rfl))) ?_
  simp only [lay]
  have b42 := bt b34 hb37
  have rd43 := hR.to b42
  refine lz (ow_call (fun v w' => v = .bool (routed18 d.hs) ∧ Below W36.heap.size W36 w') (by exact xk Try.func37) ((rrouted18_any d _ W36 rd43 hokh).mono (by rintro e w' ⟨⟨q, rfl, hq⟩, hb⟩; exact ⟨_, rfl, by rw [hq.out], hb⟩)) ?_)
  rintro _ W44 ⟨rfl, hb45⟩
  have z46 := hb45.size
  simp only [lay]
  refine wn ?_
  by_cases q47 : (routed18 d.hs) = true
  case pos =>
   rw [q47]
   refine cT9 ?_
   refine wp_sr ?_
   refine lv (.agg (v17 0 0 false false 0 0 0 [] [] (.slice none 0 0) (.slice none 0 0))) (by kernel_rfl) ?_
   simp only [lay]
   refine lz (ow_st 35 (.tmp 6) (.tmp 20) g22 (v17 0 0 false false 0 0 0 [] [] (.slice none 0 0) (.slice none 0 0)) _ _ rfl (by rfl) (by rfl) (hg24.to (bt hb37 hb45)) (by kernel_rfl) rfl (by kernel_rfl) ?_)
   intro W48 hg49 bs50 hb51
   have z54 := hb51.size
   simp only [lay]
   refine lv (.int .i64 170) (by exact xa) ?_
   simp only [lay]
   refine wn ?_
   refine wp_ret ?_
   try simp only [Exit.then]
   have e : pack18 d s t s' t' = (zero18, 170) := by
    unfold pack18
    repeat (first|rw [if_pos (by first|assumption|omega)]|rw [if_neg (by first|assumption|omega|exact ne_true_of_eq_false (by assumption))])
   exact bodyPost_ret (res_cell2 Try.results10 rfl (hg49.load (P := Try.prog) 35 Try.underlying35 rfl (by kernel_rfl)) rfl) rfl ⟨⟨pZ18, by rw [e]; rfl, by rw [e]; exact own4_z18 _ _⟩, ((bt b42 hb45).trans (hb51.mono (lq b33 ge25)))⟩
  replace q47 := eq_false_of_ne_true q47
  rw [q47]
  refine cF9 ?_
  refine wp_skip ?_
  change Code.wp _ _ _ _ _
  refine wp_seq ?_
  refine wp_sr ?_
  refine lv (pq9 g1 40) (by exact xf 40 0 Try.underlying28) ?_
  simp only [lay]
  have b58 := bt b40 hb45
  have has59 := hg3.to b58
  refine lv (.int .u8 d.pro) (by exact xc Try.underlying5 (has59.cell 40 rfl)) ?_
  simp only [lay]
  refine lz (ow_same (.bool (wrong18 d.pro)) (by exact xk Try.func38) (rwrong18_any d.pro W44) ?_)
  simp only [lay]
  refine wn ?_
  by_cases q60 : wrong18 d.pro = true
  case pos =>
   rw [q60]
   refine cT9 ?_
   refine wp_sr ?_
   refine lv (.agg (v17 0 0 false false 0 0 0 [] [] (.slice none 0 0) (.slice none 0 0))) (by kernel_rfl) ?_
   simp only [lay]
   refine lz (ow_st 35 (.tmp 6) (.tmp 24) g22 (v17 0 0 false false 0 0 0 [] [] (.slice none 0 0) (.slice none 0 0)) _ _ rfl (by rfl) (by rfl) (hg24.to (bt hb37 hb45)) (by kernel_rfl) rfl (by kernel_rfl) ?_)
   intro W61 hg62 bs63 hb64
   have z67 := hb64.size
   simp only [lay]
   refine lv (.int .i64 171) (by exact xa) ?_
   simp only [lay]
   refine wn ?_
   refine wp_ret ?_
   try simp only [Exit.then]
   have e : pack18 d s t s' t' = (zero18, 171) := by
    unfold pack18
    repeat (first|rw [if_pos (by first|assumption|omega)]|rw [if_neg (by first|assumption|omega|exact ne_true_of_eq_false (by assumption))])
   exact bodyPost_ret (res_cell2 Try.results10 rfl (hg62.load (P := Try.prog) 35 Try.underlying35 rfl (by kernel_rfl)) rfl) rfl ⟨⟨pZ18, by rw [e]; rfl, by rw [e]; exact own4_z18 _ _⟩, ((bt b42 hb45).trans (hb64.mono (lq b33 ge25)))⟩
  replace q60 := eq_false_of_ne_true q60
  rw [q60]
  refine cF9 ?_
  refine wp_skip ?_
  change Code.wp _ _ _ _ _
  refine wp_sr ?_
  refine lv (.agg (d.cells p)) (by exact xo (has59.load (P := Try.prog) 28 Try.underlying28 rfl (by kernel_rfl))) ?_
  simp only [lay]
  have b73 := bt (bt (bt hb20 hb27) hb37) hb45
  refine lv (.agg (e4c s t)) (by exact xo ((hg10.to b73).load (P := Try.prog) 32 Try.underlying32 rfl (by kernel_rfl))) ?_
  simp only [lay]
  have b75 := bt b42 hb45
  have rd76 := hR.to b75
  refine lz (ow_call (fun v w' => (∃ u, v = .tuple #[u, .int .i64 BE] ∧ OwnB w' W44.heap.size u BL) ∧ Below W44.heap.size W44 w') (by exact xk Try.func39) ((rbody18_any d p s t hE W44 rd76 hbl).mono (by rintro e w' ⟨⟨v, rfl, ho⟩, hb⟩; rw [hBL] at ho; exact ⟨_, rfl, ⟨v, by rw [hBE], ho⟩, hb⟩)) ?_)
  rintro _ W77 ⟨⟨u79, rfl, hO80⟩, hb78⟩
  have z81 := hb78.size
  obtain ⟨A82, c83, rfl, y84⟩ := hO80.by_
  simp only [lay]
  refine lv (.tuple #[.slice A82 BL.length c83, .int .i64 BE]) (by exact xm) ?_
  refine lv (.slice A82 BL.length c83) (by exact xe) ?_
  refine lv (.int .i64 BE) (by exact xe) ?_
  refine lv (.slice A82 BL.length c83) (by exact xa) ?_
  simp only [lay]
  refine lv (.int .i64 BE) (by exact xa) ?_
  simp only [lay]
  refine wn ?_
  refine wp_seq ?_
  refine wp_sr ?_
  refine lv (pq9 g1 40) (by exact xf 40 0 Try.underlying28) ?_
  simp only [lay]
  have b85 := bt b58 hb78
  have has86 := hg3.to b85
  refine lv (.int .u8 d.pro) (by exact xc Try.underlying5 (has86.cell 40 rfl)) ?_
  simp only [lay]
  by_cases q87 : d.pro = 58
  case pos =>
   refine lv (.bool true) (by exact yq) ?_
   simp only [lay]
   refine wn ?_
   refine cT9 ?_
   refine wp_region_lit ?_
   refine lv (.agg (d.cells p)) (by exact xo (has86.load (P := Try.prog) 28 Try.underlying28 rfl (by kernel_rfl))) ?_
   simp only [lay]
   refine lv (.agg (e4c s' t')) (by exact xo ((hg17.to (bt (bt (bt hb27 hb37) hb45) hb78)).load (P := Try.prog) 32 Try.underlying32 rfl (by kernel_rfl))) ?_
   simp only [lay]
   have b92 := bt b75 hb78
   have rd93 := hR.to b92
   refine lz (ow_call (fun v w' => (∃ u, v = .tuple #[u, .int .i64 IE] ∧ OwnB w' W77.heap.size u IL) ∧ Below W77.heap.size W77 w') (by exact xk Try.func40) ((ricmp18_any d p s' t' hE' W77 rd93).mono (by rintro e w' ⟨⟨v, rfl, ho⟩, hb⟩; rw [hIL] at ho; exact ⟨_, rfl, ⟨v, by rw [hIE], ho⟩, hb⟩)) ?_)
   rintro _ W94 ⟨⟨u96, rfl, hO97⟩, hb95⟩
   have z98 := hb95.size
   obtain ⟨A99, c100, rfl, y101⟩ := hO97.by_
   simp only [lay]
   refine lv (.tuple #[.slice A99 IL.length c100, .int .i64 IE]) (by exact xm) ?_
   refine lv (.slice A99 IL.length c100) (by exact xe) ?_
   refine lv (.int .i64 IE) (by exact xe) ?_
   refine lv (.slice A99 IL.length c100) (by exact xa) ?_
   simp only [lay]
   refine lv (.int .i64 IE) (by exact xa) ?_
   simp only [lay]
   refine wn ?_
   refine wp_seq ?_
   refine wp_sr ?_
   refine lv (.int .i64 IE) (by exact xm) ?_
   simp only [lay]
   by_cases q102 : IE = 0
   case pos =>
    refine lv (.bool false) (by exact neq_int_eq (by rfl) (by rfl) (by rfl) (by first|assumption|omega)) ?_
    simp only [lay]
    refine wn ?_
    refine cF9 ?_
    refine wp_skip ?_
    change Code.wp _ _ _ _ _
    refine wp_sr ?_
    refine lv (.agg (d.cells p)) (by exact xo ((hg3.to (bt b85 hb95)).load (P := Try.prog) 28 Try.underlying28 rfl (by kernel_rfl))) ?_
    simp only [lay]
    refine lv (.agg (e4c s t)) (by exact xo ((hg10.to (bt (bt b73 hb78) hb95)).load (P := Try.prog) 32 Try.underlying32 rfl (by kernel_rfl))) ?_
    refine lv (.slice A99 IL.length c100) (by exact xm) ?_
    simp only [lay]
    refine lz (ow_call (fun v w' => v = .agg ((head18 d s t IL).cells (pB4 A99 c100)) ∧ Below W94.heap.size W94 w') (by exact xk Try.func41) ((rheader18_any d hR.ok _ s t IL A99 c100 W94).mono fun e w' h => ⟨_, h.1, rfl, h.2⟩) ?_)
    rintro _ W108 ⟨rfl, hb109⟩
    have z110 := hb109.size
    simp only [lay]
    refine lz (oa (v17 0 0 false false 0 0 0 [] [] (.slice none 0 0) (.slice none 0 0)) ?_)
    intro g111 W112 hg113 ge114 sz115 hb116
    have z117 := hb116.size
    simp only [lay]
    refine lz (ow_st 35 (.tmp 11) (.tmp 47) g111 ((head18 d s t IL).cells (pB4 A99 c100)) _ _ rfl (by rfl) (by rfl) hg113 (by kernel_rfl) rfl (by kernel_rfl) ?_)
    intro W118 hg119 bs120 hb121
    have z122 := hb121.size
    simp only [lay]
    refine wn ?_
    refine wp_seq ?_
    refine wp_sr ?_
    refine lv (.agg ((head18 d s t IL).cells (pB4 A99 c100))) (by exact xo (hg119.load (P := Try.prog) 35 Try.underlying35 rfl (by kernel_rfl))) ?_
    simp only [lay]
    have b125 := (bt hb109 hb116).trans (hb121.mono (lq hb109 ge114))
    refine lz (ow_call (fun v w' => v = .int .i64 ((head18 d s t IL).check) ∧ Below W118.heap.size W118 w') (by exact xk Try.func42) (rcheck_x (head18_rd hR.ok hE (A := A99) (c := c100) (own_byS (hO97.to b125)))) ?_)
    rintro _ W127 ⟨rfl, hb128⟩
    have z129 := hb128.size
    simp only [lay]
    by_cases q130 : (head18 d s t IL).check = 0
    case pos =>
     refine lv (.bool false) (by exact neq_int_eq (by rfl) (by rfl) (by rfl) (by first|assumption|omega)) ?_
     simp only [lay]
     refine wn ?_
     refine cF9 ?_
     refine wp_skip ?_
     change Code.wp _ _ _ _ _
     refine wp_sr ?_
     have has131 := hg119.to hb128
     refine lv (.agg ((head18 d s t IL).cells (pB4 A99 c100))) (by exact xo (has131.load (P := Try.prog) 35 Try.underlying35 rfl (by kernel_rfl))) ?_
     simp only [lay]
     have b139 := bt (bt (bt (bt hb37 hb45) hb78) hb95) hb109
     refine lz (ow_st 35 (.tmp 6) (.tmp 52) g22 ((head18 d s t IL).cells (pB4 A99 c100)) _ _ rfl (by rfl) (by rfl) (hg24.to (bt ((bt b139 hb116).trans (hb121.mono (lq b139 ge114))) hb128)) (by kernel_rfl) rfl (by kernel_rfl) ?_)
     intro W132 hg133 bs134 hb135
     have b145 := bt hb95 hb109
     have z153 := hb135.size
     have own154 := (hO80.to (bt ((bt b145 hb116).trans (hb121.mono (lq b145 ge114))) hb128)).but6 bs134 (by omega)
     have has156 := has131.but6 bs134 (by omega)
     simp only [lay]
     refine lv (.int .i64 0) (by exact xa) ?_
     simp only [lay]
     refine wn ?_
     refine wp_ret ?_
     try simp only [Exit.then]
     have e : pack18 d s t s' t' = (head18 d s t IL, 0) := by
      unfold pack18
      rw [any18_i (by assumption)]
      simp only [hIL, hIE]
      repeat (first|rw [if_pos (by first|assumption|omega)]|rw [if_neg (by first|assumption|omega|exact ne_true_of_eq_false (by assumption))])
     have b158 := bt (bt b92 hb95) hb109
     exact bodyPost_ret (res_cell2 Try.results10 rfl (hg133.load (P := Try.prog) 35 Try.underlying35 rfl (by kernel_rfl)) rfl) rfl ⟨⟨_, by rw [e]; rfl, by rw [e]; exact head18_own hR.ok hE (((hO97.to (bt b125 hb128)).but6 bs134 (by omega)).more b92.size)⟩, ((bt ((bt b158 hb116).trans (hb121.mono (lq b158 ge114))) hb128).trans (hb135.mono (lq b33 ge25)))⟩
    refine lv (.bool true) (by exact neq_int_ne (by rfl) (by rfl) (by rfl) (by first|assumption|omega)) ?_
    simp only [lay]
    refine wn ?_
    refine cT9 ?_
    refine wp_sr ?_
    refine lv (.agg (v17 0 0 false false 0 0 0 [] [] (.slice none 0 0) (.slice none 0 0))) (by kernel_rfl) ?_
    simp only [lay]
    have b172 := bt (bt (bt (bt hb37 hb45) hb78) hb95) hb109
    refine lz (ow_st 35 (.tmp 6) (.tmp 51) g22 (v17 0 0 false false 0 0 0 [] [] (.slice none 0 0) (.slice none 0 0)) _ _ rfl (by rfl) (by rfl) (hg24.to (bt ((bt b172 hb116).trans (hb121.mono (lq b172 ge114))) hb128)) (by kernel_rfl) rfl (by kernel_rfl) ?_)
    intro W165 hg166 bs167 hb168
    have b178 := bt hb95 hb109
    have z187 := hb168.size
    have own188 := (hO80.to (bt ((bt b178 hb116).trans (hb121.mono (lq b178 ge114))) hb128)).but6 bs167 (by omega)
    have own189 := (hO97.to (bt b125 hb128)).but6 bs167 (by omega)
    have has190 := (hg119.to hb128).but6 bs167 (by omega)
    simp only [lay]
    refine lv (.int .i64 2) (by exact xa) ?_
    simp only [lay]
    refine wn ?_
    refine wp_ret ?_
    try simp only [Exit.then]
    have e : pack18 d s t s' t' = (zero18, 2) := by
     unfold pack18
     rw [any18_i (by assumption)]
     simp only [hIL, hIE]
     repeat (first|rw [if_pos (by first|assumption|omega)]|rw [if_neg (by first|assumption|omega|exact ne_true_of_eq_false (by assumption))])
    have b192 := bt (bt b92 hb95) hb109
    exact bodyPost_ret (res_cell2 Try.results10 rfl (hg166.load (P := Try.prog) 35 Try.underlying35 rfl (by kernel_rfl)) rfl) rfl ⟨⟨pZ18, by rw [e]; rfl, by rw [e]; exact own4_z18 _ _⟩, ((bt ((bt b192 hb116).trans (hb121.mono (lq b192 ge114))) hb128).trans (hb168.mono (lq b33 ge25)))⟩
   refine lv (.bool true) (by exact neq_int_ne (by rfl) (by rfl) (by rfl) (by first|assumption|omega)) ?_
   simp only [lay]
   refine wn ?_
   refine cT9 ?_
   refine wp_sr ?_
   refine lv (.agg (v17 0 0 false false 0 0 0 [] [] (.slice none 0 0) (.slice none 0 0))) (by kernel_rfl) ?_
   refine lv (.int .i64 IE) (by exact xm) ?_
   simp only [lay]
   refine lz (ow_st 35 (.tmp 6) (.tmp 42) g22 (v17 0 0 false false 0 0 0 [] [] (.slice none 0 0) (.slice none 0 0)) _ _ rfl (by rfl) (by rfl) (hg24.to (bt (bt (bt hb37 hb45) hb78) hb95)) (by kernel_rfl) rfl (by kernel_rfl) ?_)
   intro W199 hg200 bs201 hb202
   have z208 := hb202.size
   have own209 := (hO80.to hb95).but6 bs201 (by omega)
   have own210 := hO97.but6 bs201 (by omega)
   simp only [lay]
   refine lv (.int .i64 IE) (by exact xa) ?_
   simp only [lay]
   refine wn ?_
   refine wp_ret ?_
   try simp only [Exit.then]
   have e : pack18 d s t s' t' = (zero18, IE) := by
    unfold pack18
    rw [any18_i (by assumption)]
    simp only [hIL, hIE]
    repeat (first|rw [if_pos (by first|assumption|omega)]|rw [if_neg (by first|assumption|omega|exact ne_true_of_eq_false (by assumption))])
   exact bodyPost_ret (res_cell2 Try.results10 rfl (hg200.load (P := Try.prog) 35 Try.underlying35 rfl (by kernel_rfl)) rfl) rfl ⟨⟨pZ18, by rw [e]; rfl, by rw [e]; exact own4_z18 _ _⟩, ((bt b92 hb95).trans (hb202.mono (lq b33 ge25)))⟩
  refine lv (.bool false) (by exact yqn) ?_
  simp only [lay]
  refine wn ?_
  refine cF9 ?_
  refine wp_skip ?_
  change Code.wp _ _ _ _ _
  refine wp_seq ?_
  refine wp_sr ?_
  refine lv (.int .i64 BE) (by exact xm) ?_
  simp only [lay]
  by_cases q214 : BE = 0
  case pos =>
   refine lv (.bool false) (by exact neq_int_eq (by rfl) (by rfl) (by rfl) (by first|assumption|omega)) ?_
   simp only [lay]
   refine wn ?_
   refine cF9 ?_
   refine wp_skip ?_
   change Code.wp _ _ _ _ _
   refine wp_sr ?_
   refine lv (.agg (d.cells p)) (by exact xo (has86.load (P := Try.prog) 28 Try.underlying28 rfl (by kernel_rfl))) ?_
   simp only [lay]
   refine lv (.agg (e4c s t)) (by exact xo ((hg10.to (bt b73 hb78)).load (P := Try.prog) 32 Try.underlying32 rfl (by kernel_rfl))) ?_
   refine lv (.slice A82 BL.length c83) (by exact xm) ?_
   simp only [lay]
   refine lz (ow_call (fun v w' => v = .agg ((head18 d s t BL).cells (pB4 A82 c83)) ∧ Below W77.heap.size W77 w') (by exact xk Try.func41) ((rheader18_any d hR.ok _ s t BL A82 c83 W77).mono fun e w' h => ⟨_, h.1, rfl, h.2⟩) ?_)
   rintro _ W217 ⟨rfl, hb218⟩
   have z219 := hb218.size
   simp only [lay]
   refine lz (oa (v17 0 0 false false 0 0 0 [] [] (.slice none 0 0) (.slice none 0 0)) ?_)
   intro g220 W221 hg222 ge223 sz224 hb225
   have z226 := hb225.size
   simp only [lay]
   refine lz (ow_st 35 (.tmp 11) (.tmp 47) g220 ((head18 d s t BL).cells (pB4 A82 c83)) _ _ rfl (by rfl) (by rfl) hg222 (by kernel_rfl) rfl (by kernel_rfl) ?_)
   intro W227 hg228 bs229 hb230
   have z231 := hb230.size
   simp only [lay]
   refine wn ?_
   refine wp_seq ?_
   refine wp_sr ?_
   refine lv (.agg ((head18 d s t BL).cells (pB4 A82 c83))) (by exact xo (hg228.load (P := Try.prog) 35 Try.underlying35 rfl (by kernel_rfl))) ?_
   simp only [lay]
   have b234 := (bt hb218 hb225).trans (hb230.mono (lq hb218 ge223))
   refine lz (ow_call (fun v w' => v = .int .i64 ((head18 d s t BL).check) ∧ Below W227.heap.size W227 w') (by exact xk Try.func42) (rcheck_x (head18_rd hR.ok hE (A := A82) (c := c83) (own_byS (hO80.to b234)))) ?_)
   rintro _ W236 ⟨rfl, hb237⟩
   have z238 := hb237.size
   simp only [lay]
   by_cases q239 : (head18 d s t BL).check = 0
   case pos =>
    refine lv (.bool false) (by exact neq_int_eq (by rfl) (by rfl) (by rfl) (by first|assumption|omega)) ?_
    simp only [lay]
    refine wn ?_
    refine cF9 ?_
    refine wp_skip ?_
    change Code.wp _ _ _ _ _
    refine wp_sr ?_
    have has240 := hg228.to hb237
    refine lv (.agg ((head18 d s t BL).cells (pB4 A82 c83))) (by exact xo (has240.load (P := Try.prog) 35 Try.underlying35 rfl (by kernel_rfl))) ?_
    simp only [lay]
    have b247 := bt (bt (bt hb37 hb45) hb78) hb218
    refine lz (ow_st 35 (.tmp 6) (.tmp 52) g22 ((head18 d s t BL).cells (pB4 A82 c83)) _ _ rfl (by rfl) (by rfl) (hg24.to (bt ((bt b247 hb225).trans (hb230.mono (lq b247 ge223))) hb237)) (by kernel_rfl) rfl (by kernel_rfl) ?_)
    intro W241 hg242 bs243 hb244
    have z255 := hb244.size
    have has257 := has240.but6 bs243 (by omega)
    simp only [lay]
    refine lv (.int .i64 0) (by exact xa) ?_
    simp only [lay]
    refine wn ?_
    refine wp_ret ?_
    try simp only [Exit.then]
    have e : pack18 d s t s' t' = (head18 d s t BL, 0) := by
     unfold pack18
     rw [any18_b (by assumption)]
     simp only [hBL, hBE]
     repeat (first|rw [if_pos (by first|assumption|omega)]|rw [if_neg (by first|assumption|omega|exact ne_true_of_eq_false (by assumption))])
    have b259 := bt (bt b75 hb78) hb218
    exact bodyPost_ret (res_cell2 Try.results10 rfl (hg242.load (P := Try.prog) 35 Try.underlying35 rfl (by kernel_rfl)) rfl) rfl ⟨⟨_, by rw [e]; rfl, by rw [e]; exact head18_own hR.ok hE (((hO80.to (bt b234 hb237)).but6 bs243 (by omega)).more b75.size)⟩, ((bt ((bt b259 hb225).trans (hb230.mono (lq b259 ge223))) hb237).trans (hb244.mono (lq b33 ge25)))⟩
   refine lv (.bool true) (by exact neq_int_ne (by rfl) (by rfl) (by rfl) (by first|assumption|omega)) ?_
   simp only [lay]
   refine wn ?_
   refine cT9 ?_
   refine wp_sr ?_
   refine lv (.agg (v17 0 0 false false 0 0 0 [] [] (.slice none 0 0) (.slice none 0 0))) (by kernel_rfl) ?_
   simp only [lay]
   have b272 := bt (bt (bt hb37 hb45) hb78) hb218
   refine lz (ow_st 35 (.tmp 6) (.tmp 51) g22 (v17 0 0 false false 0 0 0 [] [] (.slice none 0 0) (.slice none 0 0)) _ _ rfl (by rfl) (by rfl) (hg24.to (bt ((bt b272 hb225).trans (hb230.mono (lq b272 ge223))) hb237)) (by kernel_rfl) rfl (by kernel_rfl) ?_)
   intro W266 hg267 bs268 hb269
   have z281 := hb269.size
   have own282 := (hO80.to (bt b234 hb237)).but6 bs268 (by omega)
   have has283 := (hg228.to hb237).but6 bs268 (by omega)
   simp only [lay]
   refine lv (.int .i64 2) (by exact xa) ?_
   simp only [lay]
   refine wn ?_
   refine wp_ret ?_
   try simp only [Exit.then]
   have e : pack18 d s t s' t' = (zero18, 2) := by
    unfold pack18
    rw [any18_b (by assumption)]
    simp only [hBL, hBE]
    repeat (first|rw [if_pos (by first|assumption|omega)]|rw [if_neg (by first|assumption|omega|exact ne_true_of_eq_false (by assumption))])
   have b285 := bt (bt b75 hb78) hb218
   exact bodyPost_ret (res_cell2 Try.results10 rfl (hg267.load (P := Try.prog) 35 Try.underlying35 rfl (by kernel_rfl)) rfl) rfl ⟨⟨pZ18, by rw [e]; rfl, by rw [e]; exact own4_z18 _ _⟩, ((bt ((bt b285 hb225).trans (hb230.mono (lq b285 ge223))) hb237).trans (hb269.mono (lq b33 ge25)))⟩
  refine lv (.bool true) (by exact neq_int_ne (by rfl) (by rfl) (by rfl) (by first|assumption|omega)) ?_
  simp only [lay]
  refine wn ?_
  refine cT9 ?_
  refine wp_sr ?_
  refine lv (.agg (v17 0 0 false false 0 0 0 [] [] (.slice none 0 0) (.slice none 0 0))) (by kernel_rfl) ?_
  refine lv (.int .i64 BE) (by exact xm) ?_
  simp only [lay]
  refine lz (ow_st 35 (.tmp 6) (.tmp 42) g22 (v17 0 0 false false 0 0 0 [] [] (.slice none 0 0) (.slice none 0 0)) _ _ rfl (by rfl) (by rfl) (hg24.to (bt (bt hb37 hb45) hb78)) (by kernel_rfl) rfl (by kernel_rfl) ?_)
  intro W292 hg293 bs294 hb295
  have z299 := hb295.size
  have own300 := hO80.but6 bs294 (by omega)
  simp only [lay]
  refine lv (.int .i64 BE) (by exact xa) ?_
  simp only [lay]
  refine wn ?_
  refine wp_ret ?_
  try simp only [Exit.then]
  have e : pack18 d s t s' t' = (zero18, BE) := by
   unfold pack18
   rw [any18_b (by assumption)]
   simp only [hBL, hBE]
   repeat (first|rw [if_pos (by first|assumption|omega)]|rw [if_neg (by first|assumption|omega|exact ne_true_of_eq_false (by assumption))])
  exact bodyPost_ret (res_cell2 Try.results10 rfl (hg293.load (P := Try.prog) 35 Try.underlying35 rfl (by kernel_rfl)) rfl) rfl ⟨⟨pZ18, by rw [e]; rfl, by rw [e]; exact own4_z18 _ _⟩, ((bt b75 hb78).trans (hb295.mono (lq b33 ge25)))⟩
 refine lv (.bool true) (by exact neq_int_ne (by rfl) (by rfl) (by rfl) (by first|assumption|omega)) ?_
 simp only [lay]
 refine wn ?_
 refine cT9 ?_
 refine wp_sr ?_
 refine lv (.agg (v17 0 0 false false 0 0 0 [] [] (.slice none 0 0) (.slice none 0 0))) (by kernel_rfl) ?_
 refine lv (.int .i64 d.check) (by exact xm) ?_
 simp only [lay]
 refine lz (ow_st 35 (.tmp 6) (.tmp 16) g22 (v17 0 0 false false 0 0 0 [] [] (.slice none 0 0) (.slice none 0 0)) _ _ rfl (by rfl) (by rfl) (hg24.to hb37) (by kernel_rfl) rfl (by kernel_rfl) ?_)
 intro W304 hg305 bs306 hb307
 have z309 := hb307.size
 simp only [lay]
 refine lv (.int .i64 d.check) (by exact xa) ?_
 simp only [lay]
 refine wn ?_
 refine wp_ret ?_
 try simp only [Exit.then]
 have e : pack18 d s t s' t' = (zero18, d.check) := by
  unfold pack18
  repeat (first|rw [if_pos (by first|assumption|omega)]|rw [if_neg (by first|assumption|omega|exact ne_true_of_eq_false (by assumption))])
 exact bodyPost_ret (res_cell2 Try.results10 rfl (hg305.load (P := Try.prog) 35 Try.underlying35 rfl (by kernel_rfl)) rfl) rfl ⟨⟨pZ18, by rw [e]; rfl, by rw [e]; exact own4_z18 _ _⟩, ((bt b34 hb37).trans (hb307.mono (lq b33 ge25)))⟩
end Go.Proofs.Ytjnphelfloiadaa
