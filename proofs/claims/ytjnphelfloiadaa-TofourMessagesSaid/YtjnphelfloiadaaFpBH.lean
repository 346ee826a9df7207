/-
  Lemmas and walks for the row of TofourPackets,TofourMessages,TofourInside (part 34 of 42).
-/
import Derived.Test.YtjnphelfloiadaaFpAG
import Derived.Test.YtjnphelfloiadaaFpBC
import Derived.Test.YtjnphelfloiadaaFpBG
set_option linter.unusedVariables false
set_option linter.unusedSimpArgs false
namespace Go.Proofs.Ytjnphelfloiadaa
open Go.RowKit Go.Shelf
attribute [local irreducible] wpList Code.wp Oper.wp wpOp wpAnyH

set_option maxRecDepth 100000 in
set_option maxHeartbeats 8000000 in
theorem msg18_any (m : D7) (A : Option Addr) (c : Nat) (s t : List Int) (hE : E4ok s t) (w : World) (hR : Rd7 w.heap.size w m A c) :
  Calls Try.prog 13 #[.agg (m.cells A c), .agg (e4c s t)] w fun e w' => ToldM17 (msg18 m s t) w.heap.size w' e ∧ Below w.heap.size w w' := by
 obtain ⟨K1, hK1⟩ : ∃ x, (kind18 m).1.1 = x := ⟨_, rfl⟩
 obtain ⟨K2, hK2⟩ : ∃ x, (kind18 m).1.2.1 = x := ⟨_, rfl⟩
 obtain ⟨K3, hK3⟩ : ∃ x, (kind18 m).1.2.2 = x := ⟨_, rfl⟩
 obtain ⟨IE, hIE⟩ : ∃ x, (inside18 m.bl s t).2 = x := ⟨_, rfl⟩
 obtain ⟨IL, hIL⟩ : ∃ x, (inside18 m.bl s t).1 = x := ⟨_, rfl⟩
 have y := hR.body
 go_enter_defers Try.func13, Try.ntmps13
 refine wp_sr ?_
 refine lz (ow_box 43 (.tmp 0) _ rfl rfl ?_)
 intro g1 W2 hg3 ge4 sz5 hb6
 have z7 := hb6.size
 simp only [lay]
 refine lz (ow_box 32 (.tmp 1) _ rfl rfl ?_)
 intro g8 W9 hg10 ge11 sz12 hb13
 have z14 := hb13.size
 simp only [lay]
 refine lz (oa #[.int .u8 0, .int .u8 0, .int .u32 0, .slice none 0 0] ?_)
 intro g15 W16 hg17 ge18 sz19 hb20
 have z21 := hb20.size
 simp only [lay]
 refine lz (ow_alloc (.int .i64 0) #[.int .i64 0] rfl (by kernel_rfl) rfl ?_)
 intro g22 W23 hg24 ge25 sz26 hb27
 have z28 := hb27.size
 simp only [lay]
 refine wn ?_
 refine wp_sr ?_
 refine lz (ow_defer (k := 27) rfl rfl ?_)
 simp only [lay]
 refine wn ?_
 refine wp_sr ?_
 have b30 := bt (bt hb13 hb20) hb27
 refine lv (.agg (m.cells A c)) (by exact xo ((hg3.to b30).load (P := Try.prog) 43 Try.underlying43 rfl (by kernel_rfl))) ?_
 simp only [lay]
 by_cases q32 : (kind18 m).2 = true
 case pos =>
  refine lz (ow_call (fun v w' => v = .agg #[.int .u8 K1, .int .u8 K2, .int .u32 K3, .slice none 0 0] ∧ Below W23.heap.size W23 w') (by exact xk Try.func45) ((kind18_any m hR.ok _ _ W23).mono fun e w' h => ⟨_, (by have := h.1.1 q32; rw [hK1, hK2, hK3] at this; exact this), rfl, h.2⟩) ?_)
  rintro _ W33 ⟨rfl, hb34⟩
  have z35 := hb34.size
  simp only [lay]
  refine lz (oa #[.int .u8 0, .int .u8 0, .int .u32 0, .slice none 0 0] ?_)
  intro g36 W37 hg38 ge39 sz40 hb41
  have z42 := hb41.size
  simp only [lay]
  refine lz (ow_st 43 (.tmp 6) (.tmp 10) g36 #[.int .u8 K1, .int .u8 K2, .int .u32 K3, .slice none 0 0] _ _ rfl (by rfl) (by rfl) hg38 (by kernel_rfl) rfl (by kernel_rfl) ?_)
  intro W43 hg44 bs45 hb46
  have z47 := hb46.size
  simp only [lay]
  refine wn ?_
  refine wp_seq ?_
  refine wp_sr ?_
  refine lv (pq9 g1 3) (by exact xf 3 0 Try.underlying43) ?_
  simp only [lay]
  have b48 := bt b30 hb34
  have has52 := hg3.to ((bt b48 hb41).trans (hb46.mono (lq b48 ge39)))
  refine lv (.slice A m.bl.length c) (by exact xc Try.underlying26 (has52.cell 3 rfl)) ?_
  refine lv (.int .i64 (m.bl.length : Int)) (by exact xz Try.underlying26) ?_
  simp only [lay]
  by_cases q53 : (m.bl.length : Int) > 65527
  case pos =>
   refine lv (.bool true) (by exact ex_gtr (by rfl) (by rfl) (by rfl) (decide_eq_true (by first|assumption|omega|decide))) ?_
   simp only [lay]
   refine wn ?_
   refine cT9 ?_
   refine wp_region_lit ?_
   refine lv (.iface 36 (.int .i64 2)) (by kernel_rfl) ?_
   simp only [lay]
   refine lz (ow_raise _ _ rfl (by rfl) ?_)
   have e : msg18 m s t = (zero7, 2) := by
    unfold msg18
    rw [if_neg (by simp [*])]
    simp only [hK1, hK2, hK3, hIE, hIL]
    repeat (first|rw [if_pos (by first|assumption|omega)]|rw [if_neg (by first|assumption|omega)])
   have b54 := bt hb27 hb34
   have b64 := bt (bt hb6 hb13) hb20
   have b66 := bt (bt b64 hb27) hb34
   refine leave18_fault (hg24.to ((bt hb34 hb41).trans (hb46.mono (lq hb34 ge39)))) ?_
   intro W71 hE72 hb73 hk74
   exact ⟨_, res_cc Try.results13 rfl ((hk74 _ _ (by omega) (hg17.to ((bt b54 hb41).trans (hb46.mono (lq b54 ge39))))).load (P := Try.prog) 43 Try.underlying43 rfl (by kernel_rfl)) rfl (load_errno hE72), ⟨none, 0, by rw [e]; rfl, by rw [e]; exact zero7_ok, by rw [e]; exact OwnB.nil _ _⟩, ((bt b66 hb41).trans (hb46.mono (lq b66 ge39))).trans (hb73.mono (lq b64 ge25))⟩
  refine lv (.bool false) (by exact ex_gtr (by rfl) (by rfl) (by rfl) (decide_eq_false (by first|assumption|omega|decide))) ?_
  simp only [lay]
  refine wn ?_
  refine cF9 ?_
  refine wp_skip ?_
  change Code.wp _ _ _ _ _
  refine wp_seq ?_
  refine wp_sr ?_
  refine lv (pq9 g1 0) (by exact xf 0 0 Try.underlying43) ?_
  refine lv (.int .u8 m.ty) (by exact xc Try.underlying5 (has52.cell 0 rfl)) ?_
  simp only [lay]
  by_cases q75 : m.ty ≥ 128
  case pos =>
   refine lv (.bool true) (by exact ex_geq (by rfl) (by rfl) (by rfl) (decide_eq_true (by first|assumption|omega|decide))) ?_
   simp only [lay]
   refine wn ?_
   refine cT9 ?_
   refine wp_sr ?_
   refine lv (pq9 g1 3) (by exact xf 3 0 Try.underlying43) ?_
   refine lv (.slice A m.bl.length c) (by exact xc Try.underlying26 (has52.cell 3 rfl)) ?_
   simp only [lay]
   have b76 := bt hb6 hb13
   have b77 := bt b76 hb20
   have b79 := bt (bt b77 hb27) hb34
   have l81 := lq b79 ge39
   have b82 := (bt b79 hb41).trans (hb46.mono l81)
   have by83 := y.to b82
   refine lz (ow_call (fun v w' => OwnB w' W43.heap.size v m.bl ∧ Below W43.heap.size W43 w') (by exact xk Try.func46) (clone_n _ _ _ m.bl W43 by83 (by omega)) ?_)
   rintro v86 W84 ⟨hO87, hb85⟩
   have z88 := hb85.size
   obtain ⟨A89, c90, rfl, y91⟩ := hO87.by_
   simp only [lay]
   refine lv (pq9 g36 3) (by exact xf 3 0 Try.underlying43) ?_
   simp only [lay]
   refine lz (ow_st1 26 (.tmp 22) (.tmp 21) g36 3 (.slice A89 m.bl.length c90) _ #[.int .u8 K1, .int .u8 K2, .int .u32 K3, .slice A89 m.bl.length c90] _ rfl (by rfl) (by rfl) rfl (by kernel_rfl) (hg44.to hb85) rfl rfl (by kernel_rfl) ?_)
   intro W92 hg93 bs94 hb95
   have z97 := hb95.size
   simp only [lay]
   refine wn ?_
   refine wp_sr ?_
   refine lv (.agg #[.int .u8 K1, .int .u8 K2, .int .u32 K3, .slice A89 m.bl.length c90]) (by exact xo (hg93.load (P := Try.prog) 43 Try.underlying43 rfl (by kernel_rfl))) ?_
   simp only [lay]
   have b103 := bt hb27 hb34
   have l105 := lq b103 ge39
   refine lz (ow_st 43 (.tmp 4) (.tmp 23) g15 #[.int .u8 K1, .int .u8 K2, .int .u32 K3, .slice A89 m.bl.length c90] _ _ rfl (by rfl) (by rfl) (hg17.to ((bt ((bt b103 hb41).trans (hb46.mono l105)) hb85).trans (hb95.mono l105))) (by kernel_rfl) rfl (by kernel_rfl) ?_)
   intro W99 hg100 bs101 hb102
   have l111 := lq hb34 ge39
   have z116 := hb102.size
   simp only [lay]
   refine lz (ow_st1 36 (.tmp 5) (.const (.int .i64 0)) g22 0 (.int .i64 0) _ #[.int .i64 0] _ rfl (by rfl) (by rfl) rfl (by kernel_rfl) ((hg24.to ((bt ((bt hb34 hb41).trans (hb46.mono l111)) hb85).trans (hb95.mono l111))).but6 bs101 (by omega)) rfl rfl (by kernel_rfl) ?_)
   intro W120 hg121 bs122 hb123
   have z124 := hb123.size
   have own125 := ((hO87.but6 bs94 (by omega)).but6 bs101 (by omega)).but6 bs122 (by omega)
   have has126 := (hg93.but6 bs101 (by omega)).but6 bs122 (by omega)
   simp only [lay]
   refine wn ?_
   refine wp_ret ?_
   try simp only [Exit.then]
   have e : msg18 m s t = (⟨K1, K2, K3, m.bl⟩, 0) := by
    unfold msg18
    rw [if_neg (by simp [*])]
    simp only [hK1, hK2, hK3, hIE, hIL]
    repeat (first|rw [if_pos (by first|assumption|omega)]|rw [if_neg (by first|assumption|omega)])
   have hcs : (#[.int .u8 K1, .int .u8 K2, .int .u32 K3, .slice A89 m.bl.length c90] : Array Value) = (⟨K1, K2, K3, m.bl⟩ : D7).cells A89 c90 := by
    show _ = (#[.int .u8 K1, .int .u8 K2, .int .u32 K3, .slice A89 (m.bl).length c90] : Array Value)
    rw [← own_len own125]
   have h4 := (hg100.but6 bs122 (by omega))
   rw [hcs] at h4
   have hO4 := own_norm (own125.more b82.size)
   exact leave18_ok (res_cc Try.results13 rfl (h4.load (P := Try.prog) 43 Try.underlying43 rfl (by kernel_rfl)) rfl (load_errno hg121)) ⟨⟨A89, c90, by rw [e], by rw [e, ← hK1, ← hK2, ← hK3]; exact kind18_ok hR.ok _, by rw [e]; exact hO4⟩, ((((bt b82 hb85).trans (hb95.mono l81)).trans (hb102.mono (lq b76 ge18))).trans (hb123.mono (lq b77 ge25)))⟩
  refine lv (.bool false) (by exact ex_geq (by rfl) (by rfl) (by rfl) (decide_eq_false (by first|assumption|omega|decide))) ?_
  simp only [lay]
  refine wn ?_
  refine cF9 ?_
  refine wp_skip ?_
  change Code.wp _ _ _ _ _
  refine wp_sr ?_
  refine lv (pq9 g1 3) (by exact xf 3 0 Try.underlying43) ?_
  refine lv (.slice A m.bl.length c) (by exact xc Try.underlying26 (has52.cell 3 rfl)) ?_
  simp only [lay]
  have b135 := bt (bt hb20 hb27) hb34
  refine lv (.agg (e4c s t)) (by exact xo ((hg10.to ((bt b135 hb41).trans (hb46.mono (lq b135 ge39)))).load (P := Try.prog) 32 Try.underlying32 rfl (by kernel_rfl))) ?_
  simp only [lay]
  have b140 := bt hb6 hb13
  have b141 := bt b140 hb20
  have b143 := bt (bt b141 hb27) hb34
  have l145 := lq b143 ge39
  have b146 := (bt b143 hb41).trans (hb46.mono l145)
  have by147 := y.to b146
  refine lz (ow_call (fun v w' => (∃ u, v = .tuple #[u, .int .i64 IE] ∧ OwnB w' W43.heap.size u IL) ∧ Below W43.heap.size W43 w') (by exact xk Try.func16) ((inside18_any _ _ _ _ _ _ hE W43 by147).mono (by rintro e w' ⟨⟨v, rfl, ho⟩, hb⟩; exact ⟨_, rfl, ⟨v, by rw [hIE], by rw [← hIL]; exact ho⟩, hb⟩)) ?_)
  rintro _ W148 ⟨⟨u150, rfl, hO151⟩, hb149⟩
  have z152 := hb149.size
  obtain ⟨A153, c154, rfl, y155⟩ := hO151.by_
  simp only [lay]
  refine lv (.tuple #[.slice A153 IL.length c154, .int .i64 IE]) (by exact xm) ?_
  refine lv (.slice A153 IL.length c154) (by exact xe) ?_
  refine lv (.int .i64 IE) (by exact xe) ?_
  refine lv (.slice A153 IL.length c154) (by exact xa) ?_
  simp only [lay]
  refine lv (.int .i64 IE) (by exact xa) ?_
  simp only [lay]
  refine wn ?_
  refine wp_sr ?_
  refine lv (.int .i64 IE) (by exact xm) ?_
  simp only [lay]
  by_cases q156 : IE = 0
  case pos =>
   rw [q156]
   refine lz (ow_same (.tuple #[]) (by exact xk Try.func28) (must18_no W148) ?_)
   simp only [lay]
   refine wn ?_
   refine wp_sr ?_
   refine lv (.slice A153 IL.length c154) (by exact xm) ?_
   refine lv (.slice A153 IL.length c154) (by exact xm) ?_
   refine lv (.int .i64 (IL.length : Int)) (by exact xz Try.underlying26) ?_
   simp only [lay]
   by_cases q157 : (IL.length : Int) ≤ 548
   case pos =>
    refine lv (.int .i64 (IL.length : Int)) (by exact ex_min (r := (IL.length : Int)) (by rfl) (by rfl) (by rfl) (by first|rw [if_pos (by omega)]|rw [if_neg (by omega)]|(split <;> omega))) ?_
    simp only [lay]
    have y159 := (own_byS hO151)
    have y158 := y159.to_ (P := Try.prog) 26 Try.underlying26 (by kernel_rfl) (k := IL.length) (by omega)
    have hO160 := hO151.take (k := IL.length) (by omega)
    refine lv (.slice A153 IL.length c154) (by exact ex_slice (by rfl) (by rfl) (y158.1 _)) ?_
    refine lv (pq9 g36 3) (by exact xf 3 0 Try.underlying43) ?_
    simp only [lay]
    refine lz (ow_st1 26 (.tmp 38) (.tmp 37) g36 3 (.slice A153 IL.length c154) _ #[.int .u8 K1, .int .u8 K2, .int .u32 K3, .slice A153 IL.length c154] _ rfl (by rfl) (by rfl) rfl (by kernel_rfl) (hg44.to hb149) rfl rfl (by kernel_rfl) ?_)
    intro W161 hg162 bs163 hb164
    have z166 := hb164.size
    simp only [lay]
    refine wn ?_
    refine wp_sr ?_
    refine lv (.agg #[.int .u8 K1, .int .u8 K2, .int .u32 K3, .slice A153 IL.length c154]) (by exact xo (hg162.load (P := Try.prog) 43 Try.underlying43 rfl (by kernel_rfl))) ?_
    simp only [lay]
    have b173 := bt hb27 hb34
    have l175 := lq b173 ge39
    refine lz (ow_st 43 (.tmp 4) (.tmp 39) g15 #[.int .u8 K1, .int .u8 K2, .int .u32 K3, .slice A153 IL.length c154] _ _ rfl (by rfl) (by rfl) (hg17.to ((bt ((bt b173 hb41).trans (hb46.mono l175)) hb149).trans (hb164.mono l175))) (by kernel_rfl) rfl (by kernel_rfl) ?_)
    intro W169 hg170 bs171 hb172
    have l181 := lq hb34 ge39
    have z186 := hb172.size
    simp only [lay]
    refine lz (ow_st1 36 (.tmp 5) (.const (.int .i64 0)) g22 0 (.int .i64 0) _ #[.int .i64 0] _ rfl (by rfl) (by rfl) rfl (by kernel_rfl) ((hg24.to ((bt ((bt hb34 hb41).trans (hb46.mono l181)) hb149).trans (hb164.mono l181))).but6 bs171 (by omega)) rfl rfl (by kernel_rfl) ?_)
    intro W191 hg192 bs193 hb194
    have z195 := hb194.size
    have own196 := ((hO151.but6 bs163 (by omega)).but6 bs171 (by omega)).but6 bs193 (by omega)
    have own197 := ((hO160.but6 bs163 (by omega)).but6 bs171 (by omega)).but6 bs193 (by omega)
    have has198 := (hg162.but6 bs171 (by omega)).but6 bs193 (by omega)
    simp only [lay]
    refine wn ?_
    refine wp_ret ?_
    try simp only [Exit.then]
    have e : msg18 m s t = (⟨K1, K2, K3, IL.take IL.length⟩, 0) := by
     unfold msg18
     rw [if_neg (by simp [*])]
     simp only [hK1, hK2, hK3, hIE, hIL]
     repeat (first|rw [if_pos (by first|assumption|omega)]|rw [if_neg (by first|assumption|omega)])
     rw [List.take_of_length_le (show IL.length ≤ 548 from by omega), List.take_length]
    have hcs : (#[.int .u8 K1, .int .u8 K2, .int .u32 K3, .slice A153 IL.length c154] : Array Value) = (⟨K1, K2, K3, IL.take IL.length⟩ : D7).cells A153 c154 := by
     show _ = (#[.int .u8 K1, .int .u8 K2, .int .u32 K3, .slice A153 (IL.take IL.length).length c154] : Array Value)
     rw [← own_len own197]
    have h4 := (hg170.but6 bs193 (by omega))
    rw [hcs] at h4
    have hO4 := own_norm (own197.more b146.size)
    exact leave18_ok (res_cc Try.results13 rfl (h4.load (P := Try.prog) 43 Try.underlying43 rfl (by kernel_rfl)) rfl (load_errno hg192)) ⟨⟨A153, c154, by rw [e], by rw [e, ← hK1, ← hK2, ← hK3]; exact kind18_ok hR.ok _, by rw [e]; exact hO4⟩, ((((bt b146 hb149).trans (hb164.mono l145)).trans (hb172.mono (lq b140 ge18))).trans (hb194.mono (lq b141 ge25)))⟩
   refine lv (.int .i64 548) (by exact ex_min (r := 548) (by rfl) (by rfl) (by rfl) (by first|rw [if_pos (by omega)]|rw [if_neg (by omega)]|(split <;> omega))) ?_
   simp only [lay]
   have y207 := (own_byS hO151)
   have y206 := y207.to_ (P := Try.prog) 26 Try.underlying26 (by kernel_rfl) (k := 548) (by omega)
   have hO208 := hO151.take (k := 548) (by omega)
   refine lv (.slice A153 548 c154) (by exact ex_slice (by rfl) (by rfl) (y206.1 _)) ?_
   refine lv (pq9 g36 3) (by exact xf 3 0 Try.underlying43) ?_
   simp only [lay]
   refine lz (ow_st1 26 (.tmp 38) (.tmp 37) g36 3 (.slice A153 548 c154) _ #[.int .u8 K1, .int .u8 K2, .int .u32 K3, .slice A153 548 c154] _ rfl (by rfl) (by rfl) rfl (by kernel_rfl) (hg44.to hb149) rfl rfl (by kernel_rfl) ?_)
   intro W209 hg210 bs211 hb212
   have z214 := hb212.size
   simp only [lay]
   refine wn ?_
   refine wp_sr ?_
   refine lv (.agg #[.int .u8 K1, .int .u8 K2, .int .u32 K3, .slice A153 548 c154]) (by exact xo (hg210.load (P := Try.prog) 43 Try.underlying43 rfl (by kernel_rfl))) ?_
   simp only [lay]
   have b221 := bt hb27 hb34
   have l223 := lq b221 ge39
   refine lz (ow_st 43 (.tmp 4) (.tmp 39) g15 #[.int .u8 K1, .int .u8 K2, .int .u32 K3, .slice A153 548 c154] _ _ rfl (by rfl) (by rfl) (hg17.to ((bt ((bt b221 hb41).trans (hb46.mono l223)) hb149).trans (hb212.mono l223))) (by kernel_rfl) rfl (by kernel_rfl) ?_)
   intro W217 hg218 bs219 hb220
   have l229 := lq hb34 ge39
   have z234 := hb220.size
   simp only [lay]
   refine lz (ow_st1 36 (.tmp 5) (.const (.int .i64 0)) g22 0 (.int .i64 0) _ #[.int .i64 0] _ rfl (by rfl) (by rfl) rfl (by kernel_rfl) ((hg24.to ((bt ((bt hb34 hb41).trans (hb46.mono l229)) hb149).trans (hb212.mono l229))).but6 bs219 (by omega)) rfl rfl (by kernel_rfl) ?_)
   intro W239 hg240 bs241 hb242
   have z243 := hb242.size
   have own244 := ((hO151.but6 bs211 (by omega)).but6 bs219 (by omega)).but6 bs241 (by omega)
   have own245 := ((hO208.but6 bs211 (by omega)).but6 bs219 (by omega)).but6 bs241 (by omega)
   have has246 := (hg210.but6 bs219 (by omega)).but6 bs241 (by omega)
   simp only [lay]
   refine wn ?_
   refine wp_ret ?_
   try simp only [Exit.then]
   have e : msg18 m s t = (⟨K1, K2, K3, IL.take 548⟩, 0) := by
    unfold msg18
    rw [if_neg (by simp [*])]
    simp only [hK1, hK2, hK3, hIE, hIL]
    repeat (first|rw [if_pos (by first|assumption|omega)]|rw [if_neg (by first|assumption|omega)])
   have hcs : (#[.int .u8 K1, .int .u8 K2, .int .u32 K3, .slice A153 548 c154] : Array Value) = (⟨K1, K2, K3, IL.take 548⟩ : D7).cells A153 c154 := by
    show _ = (#[.int .u8 K1, .int .u8 K2, .int .u32 K3, .slice A153 (IL.take 548).length c154] : Array Value)
    rw [← own_len own245]
   have h4 := (hg218.but6 bs241 (by omega))
   rw [hcs] at h4
   have hO4 := own_norm (own245.more b146.size)
   exact leave18_ok (res_cc Try.results13 rfl (h4.load (P := Try.prog) 43 Try.underlying43 rfl (by kernel_rfl)) rfl (load_errno hg240)) ⟨⟨A153, c154, by rw [e], by rw [e, ← hK1, ← hK2, ← hK3]; exact kind18_ok hR.ok _, by rw [e]; exact hO4⟩, ((((bt b146 hb149).trans (hb212.mono l145)).trans (hb220.mono (lq b140 ge18))).trans (hb242.mono (lq b141 ge25)))⟩
  refine lz (ow_panic [{ v := .iface 36 (.int .i64 IE), recovered := false }] (fun w' => W148 = w') (by exact xk Try.func28) (must18_yes IE q156 W148) ?_)
  rintro _ rfl
  have e : msg18 m s t = (zero7, IE) := by
   unfold msg18
   rw [if_neg (by simp [*])]
   simp only [hK1, hK2, hK3, hIE, hIL]
   repeat (first|rw [if_pos (by first|assumption|omega)]|rw [if_neg (by first|assumption|omega)])
  have b254 := bt hb27 hb34
  refine leave18_fault (hg24.to (bt ((bt hb34 hb41).trans (hb46.mono (lq hb34 ge39))) hb149)) ?_
  intro W267 hE268 hb269 hk270
  exact ⟨_, res_cc Try.results13 rfl ((hk270 _ _ (by omega) (hg17.to (bt ((bt b254 hb41).trans (hb46.mono (lq b254 ge39))) hb149))).load (P := Try.prog) 43 Try.underlying43 rfl (by kernel_rfl)) rfl (load_errno hE268), ⟨none, 0, by rw [e]; rfl, by rw [e]; exact zero7_ok, by rw [e]; exact OwnB.nil _ _⟩, (bt b146 hb149).trans (hb269.mono (lq b141 ge25))⟩
 refine lz (ow_panic [{ v := .iface 36 (.int .i64 175), recovered := false }] (fun w' => Below W23.heap.size W23 w') (by exact xk Try.func45) ((kind18_any m hR.ok _ _ W23).mono fun e w' h => ⟨h.1.2 (eq_false_of_ne_true q32), h.2⟩) ?_)
 rintro W271 hb272
 have z273 := hb272.size
 have e : msg18 m s t = (zero7, 175) := by
  unfold msg18
  rw [if_pos (by first|exact eq_false_of_ne_true (by assumption) | assumption)]
 have b278 := bt (bt hb6 hb13) hb20
 refine leave18_fault (hg24.to hb272) ?_
 intro W282 hE283 hb284 hk285
 exact ⟨_, res_cc Try.results13 rfl ((hk285 _ _ (by omega) (hg17.to (bt hb27 hb272))).load (P := Try.prog) 43 Try.underlying43 rfl (by kernel_rfl)) rfl (load_errno hE283), ⟨none, 0, by rw [e]; rfl, by rw [e]; exact zero7_ok, by rw [e]; exact OwnB.nil _ _⟩, (bt (bt b278 hb27) hb272).trans (hb284.mono (lq b278 ge25))⟩
theorem own4_z18 (w : World) (base : Nat) : Own4 w base zero18 pZ18 := ⟨⟨by decide, by decide, by decide, by decide, by decide, fun x hx => by simp [zero18, D4.src] at hx; omega, fun x hx => by simp [zero18, D4.dst] at hx; omega⟩, OwnB.nil _ _, OwnB.nil _ _⟩
theorem head18_own {w : World} {base : Nat} {d : D6} (hd : d.ok) {s t bl : List Int} (hE : E4ok s t) {A : Option Addr} {c : Nat} (h : OwnB w base (.slice A bl.length c) bl) : Own4 w base (head18 d s t bl) (pB4 A c) := ⟨head18_ok hd hE, OwnB.nil _ _, h⟩
theorem head18_rd {w : World} {d : D6} (hd : d.ok) {s t bl : List Int} (hE : E4ok s t) {A : Option Addr} {n c : Nat} (h : By w.heap.size w A n c bl) : Rd4 w.heap.size w (head18 d s t bl) (pB4 A c) := by
 obtain rfl := h.len
 exact ⟨head18_ok hd hE, By.nil _ _ none (Nat.zero_le _), h⟩
theorem bad18_nil (d : D6) (s t : List Int) (h : ¬ (body18 d s t).2 = 0) : (body18 d s t).1 = [] := by
 revert h
 unfold body18
 repeat' split
 all_goals (intro h; first|rfl|exact absurd rfl h)
theorem any18_i {d : D6} {s t s' t' : List Int} (h : d.pro = 58) : any18 d s t s' t' = icmp18 d s' t' := by rw [any18, if_pos h]
theorem any18_b {d : D6} {s t s' t' : List Int} (h : ¬ d.pro = 58) : any18 d s t s' t' = body18 d s t := by rw [any18, if_neg h]
def ToldP18 (r : D4 × Int) (base : Nat) (w' : World) (e : Ending) : Prop := ∃ p, e = .returned (.tuple #[.agg (r.1.cells p), .int .i64 r.2]) ∧ Own4 w' base r.1 p

set_option maxRecDepth 100000 in
set_option maxHeartbeats 8000000 in
theorem pack18_any (d : D6) (p : W6) (s t s' t' : List Int) (hE : E4ok s t) (hE' : E4ok s' t') (w : World) (hR : Rd6 w.heap.size w d p) :
  Calls Try.prog 9 #[.agg (d.cells p), .agg (e4c s t), .agg (e4c s' t')] w fun e w' => ToldP18 (pack18 d s t s' t') w.heap.size w' e ∧ Below w.heap.size w w' := by
 obtain ⟨M, hM⟩ : ∃ x, parse7 d.bl (ps18 d) = x := ⟨_, rfl⟩
 obtain ⟨PE, hPE⟩ : ∃ x, perr7 d.bl (ps18 d) = x := ⟨_, rfl⟩
 obtain ⟨MR, hMR⟩ : ∃ x, (msg18 M s' t').1 = x := ⟨_, rfl⟩
 obtain ⟨ME, hME⟩ : ∃ x, (msg18 M s' t').2 = x := ⟨_, rfl⟩
 obtain ⟨BL, hBL⟩ : ∃ x, (body18 d s t).1 = x := ⟨_, rfl⟩
 obtain ⟨BE, hBE⟩ : ∃ x, (body18 d s t).2 = x := ⟨_, rfl⟩
 have yb6 := hR.body
 have hlb := yb6.len
 go_enter_defers Try.func9, Try.ntmps9
 refine wp_sr ?_
 refine lz (ow_box 28 (.tmp 0) _ rfl rfl ?_)
 intro g1 W2 hg3 ge4 sz5 hb6
 have z7 := hb6.size
 simp only [lay]
 refine lz (ow_box 32 (.tmp 1) _ rfl rfl ?_)
 intro g8 W9 hg10 ge11 sz12 hb13
 have z14 := hb13.size
 simp only [lay]
 refine lz (ow_box 32 (.tmp 2) _ rfl rfl ?_)
 intro g15 W16 hg17 ge18 sz19 hb20
 have z21 := hb20.size
 simp only [lay]
 refine lz (oa (v17 0 0 false false 0 0 0 [] [] (.slice none 0 0) (.slice none 0 0)) ?_)
 intro g22 W23 hg24 ge25 sz26 hb27
 have z28 := hb27.size
 simp only [lay]
 refine lz (ow_alloc (.int .i64 0) #[.int .i64 0] rfl (by kernel_rfl) rfl ?_)
 intro g29 W30 hg31 ge32 sz33 hb34
 have z35 := hb34.size
 simp only [lay]
 refine wn ?_
 refine wp_sr ?_
 refine lz (ow_defer (k := 27) rfl rfl ?_)
 simp only [lay]
 refine wn ?_
 refine wp_sr ?_
 have b38 := bt (bt (bt hb13 hb20) hb27) hb34
 refine lv (.agg (d.cells p)) (by exact xo ((hg3.to b38).load (P := Try.prog) 28 Try.underlying28 rfl (by kernel_rfl))) ?_
 simp only [lay]
 have b41 := bt (bt hb6 hb13) hb20
 have b42 := bt b41 hb27
 have b43 := bt b42 hb34
 have rd44 := hR.to b43
 refine lz (ow_call (fun v w' => v = .int .i64 d.check ∧ Below W30.heap.size W30 w') (by exact xk Try.func29) (check6_x rd44) ?_)
 rintro _ W45 ⟨rfl, hb46⟩
 have z47 := hb46.size
 simp only [lay]
 by_cases q48 : d.check = 0
 case pos =>
  obtain ⟨hokh, hof, hbl⟩ := check18 q48
  rw [q48]
  refine lz (ow_same (.tuple #[]) (by exact xk Try.func28) (must18_no W45) ?_)
  simp only [lay]
  refine wn ?_
  refine wp_sr ?_
  have b49 := bt b38 hb46
  refine lv (.agg (d.cells p)) (by exact xo ((hg3.to b49).load (P := Try.prog) 28 Try.underlying28 rfl (by kernel_rfl))) ?_
  simp only [lay]
  by_cases q51 : routed18 d.hs = true
  case pos =>
   have b54 := bt b43 hb46
   have rd55 := hR.to b54
   refine lz (ow_panic [{ v := .iface 36 (.int .i64 170), recovered := false }] (fun w' => Below W45.heap.size W45 w') (by exact xk Try.func30) ((side18_any d _ W45 rd55 hokh).mono fun e w' h => ⟨by rw [h.1.out, side18, if_pos q51]; rfl, h.2⟩) ?_)
   rintro W52 hb53
   have z56 := hb53.size
   have e : pack18 d s t s' t' = (zero18, 170) := by
    unfold pack18
    repeat (first|rw [if_pos (by first|assumption|omega)]|rw [if_neg (by first|assumption|omega|exact ne_true_of_eq_false (by assumption))])
   refine leave18_fault (hg31.to (bt hb46 hb53)) ?_
   intro W64 hE65 hb66 hk67
   exact ⟨_, res_cc Try.results9 rfl ((hk67 _ _ (by omega) (hg24.to (bt (bt hb34 hb46) hb53))).load (P := Try.prog) 35 Try.underlying35 rfl (by kernel_rfl)) rfl (load_errno hE65), ⟨pZ18, by rw [e]; rfl, by rw [e]; exact own4_z18 _ _⟩, (bt b54 hb53).trans (hb66.mono (lq b42 ge32))⟩
  have hr0 := eq_false_of_ne_true q51
  by_cases q68 : wrong18 d.pro = true
  case pos =>
   have b71 := bt b43 hb46
   have rd72 := hR.to b71
   refine lz (ow_panic [{ v := .iface 36 (.int .i64 171), recovered := false }] (fun w' => Below W45.heap.size W45 w') (by exact xk Try.func30) ((side18_any d _ W45 rd72 hokh).mono fun e w' h => ⟨by rw [h.1.out, side18, if_neg q51, if_pos q68]; rfl, h.2⟩) ?_)
   rintro W69 hb70
   have z73 := hb70.size
   have e : pack18 d s t s' t' = (zero18, 171) := by
    unfold pack18
    repeat (first|rw [if_pos (by first|assumption|omega)]|rw [if_neg (by first|assumption|omega|exact ne_true_of_eq_false (by assumption))])
   refine leave18_fault (hg31.to (bt hb46 hb70)) ?_
   intro W81 hE82 hb83 hk84
   exact ⟨_, res_cc Try.results9 rfl ((hk84 _ _ (by omega) (hg24.to (bt (bt hb34 hb46) hb70))).load (P := Try.prog) 35 Try.underlying35 rfl (by kernel_rfl)) rfl (load_errno hE82), ⟨pZ18, by rw [e]; rfl, by rw [e]; exact own4_z18 _ _⟩, (bt b71 hb70).trans (hb83.mono (lq b42 ge32))⟩
  have hw0 := eq_false_of_ne_true q68
  have b85 := bt b43 hb46
  have rd86 := hR.to b85
  refine lz (ow_call (fun v w' => v = .tuple #[] ∧ Below W45.heap.size W45 w') (by exact xk Try.func30) ((side18_any d _ W45 rd86 hokh).mono fun e w' h => ⟨_, by rw [h.1.out, side18, if_neg q51, if_neg q68], rfl, h.2⟩) ?_)
  rintro _ W87 ⟨rfl, hb88⟩
  have z89 := hb88.size
  simp only [lay]
  refine wn ?_
  refine wp_sr ?_
  have b90 := bt b49 hb88
  refine lv (.agg (d.cells p)) (by exact xo ((hg3.to b90).load (P := Try.prog) 28 Try.underlying28 rfl (by kernel_rfl))) ?_
  simp only [lay]
  have b95 := bt (bt (bt (bt hb20 hb27) hb34) hb46) hb88
  refine lv (.agg (e4c s t)) (by exact xo ((hg10.to b95).load (P := Try.prog) 32 Try.underlying32 rfl (by kernel_rfl))) ?_
  simp only [lay]
  refine lz (ow_call (fun v w' => v = .agg ((head18 d s t []).cells pZ18) ∧ Below W87.heap.size W87 w') (by exact xk Try.func31) ((header18_any d hR.ok _ s t W87).mono fun e w' h => ⟨_, h.1, rfl, h.2⟩) ?_)
  rintro _ W97 ⟨rfl, hb98⟩
  have z99 := hb98.size
  simp only [lay]
  refine lz (oa (v17 0 0 false false 0 0 0 [] [] (.slice none 0 0) (.slice none 0 0)) ?_)
  intro g100 W101 hg102 ge103 sz104 hb105
  have z106 := hb105.size
  simp only [lay]
  refine lz (ow_st 35 (.tmp 8) (.tmp 19) g100 ((head18 d s t []).cells pZ18) _ _ rfl (by rfl) (by rfl) hg102 (by kernel_rfl) rfl (by kernel_rfl) ?_)
  intro W107 hg108 bs109 hb110
  have z111 := hb110.size
  simp only [lay]
  refine wn ?_
  refine wp_seq ?_
  refine wp_sr ?_
  refine lv (pq9 g1 40) (by exact xf 40 0 Try.underlying28) ?_
  simp only [lay]
  have b112 := bt b90 hb98
  have has116 := hg3.to ((bt b112 hb105).trans (hb110.mono (lq b112 ge103)))
  refine lv (.int .u8 d.pro) (by exact xc Try.underlying5 (has116.cell 40 rfl)) ?_
  simp only [lay]
  by_cases q117 : d.pro = 58
  case pos =>
   refine lv (.bool true) (by exact yq) ?_
   simp only [lay]
   refine wn ?_
   refine cT9 ?_
   refine wp_seq ?_
   refine wp_sr ?_
   refine lv (pq9 g1 36) (by exact xf 36 0 Try.underlying28) ?_
   refine lv (.bool d.frag) (by exact xc Try.underlying4 (has116.cell 36 rfl)) ?_
   refine lv (.bool d.frag) (by exact xm) ?_
   simp only [lay]
   by_cases q118 : d.frag = true
   case pos =>
    rw [q118]
    refine lv (pq9 g1 39) (by exact xf 39 0 Try.underlying28) ?_
    refine lv (.bool d.more) (by exact xc Try.underlying4 (has116.cell 39 rfl)) ?_
    refine lv (.bool d.more) (by exact xm) ?_
    simp only [lay]
    by_cases q119 : d.more = true
    case pos =>
     rw [q119]
     refine lzn ?_
     refine lzn ?_
     refine lzn ?_
     refine lv (.bool true) (by exact xp (b := true)) ?_
     simp only [lay]
     refine lv (.bool true) (by exact xp (b := true)) ?_
     simp only [lay]
     refine wn ?_
     refine cT9 ?_
     refine wp_region_lit ?_
     refine lv (.iface 36 (.int .i64 174)) (by kernel_rfl) ?_
     simp only [lay]
     refine lz (ow_raise _ _ rfl (by rfl) ?_)
     have qp : d.part = true := by unfold D6.part; simp [*]; try omega
     have hany : any18 d s t s' t' = ([], 174) := by
      rw [any18_i (by assumption)]
      unfold icmp18
      simp only [hM, hPE, hMR, hME]
      repeat (first|rw [if_pos (by first|assumption|omega)]|rw [if_neg (by first|assumption|omega|exact ne_true_of_eq_false (by assumption))])
     have e : pack18 d s t s' t' = (zero18, 174) := by
      unfold pack18
      rw [hany]
      dsimp only
      repeat (first|rw [if_pos (by first|assumption|omega)]|rw [if_neg (by first|assumption|omega|exact ne_true_of_eq_false (by assumption))])
     have b122 := bt (bt (bt hb34 hb46) hb88) hb98
     have b128 := bt (bt hb46 hb88) hb98
     have b134 := bt (bt b85 hb88) hb98
     refine leave18_fault (hg31.to ((bt b128 hb105).trans (hb110.mono (lq b128 ge103)))) ?_
     intro W139 hE140 hb141 hk142
     exact ⟨_, res_cc Try.results9 rfl ((hk142 _ _ (by omega) (hg24.to ((bt b122 hb105).trans (hb110.mono (lq b122 ge103))))).load (P := Try.prog) 35 Try.underlying35 rfl (by kernel_rfl)) rfl (load_errno hE140), ⟨pZ18, by rw [e]; rfl, by rw [e]; exact own4_z18 _ _⟩, ((bt b134 hb105).trans (hb110.mono (lq b134 ge103))).trans (hb141.mono (lq b42 ge32))⟩
    replace q119 := eq_false_of_ne_true q119
    rw [q119]
    refine lv (pq9 g1 38) (by exact xf 38 0 Try.underlying28) ?_
    refine lv (.int .i64 d.off) (by exact xc Try.underlying3 (has116.cell 38 rfl)) ?_
    simp only [lay]
    by_cases q143 : d.off > 0
    case pos =>
     refine lv (.bool true) (by exact ex_gtr (by rfl) (by rfl) (by rfl) (decide_eq_true (by first|assumption|omega|decide))) ?_
     refine lv (.bool true) (by exact xp (b := false)) ?_
     refine lv (.bool true) (by exact xp (b := true)) ?_
     simp only [lay]
     refine wn ?_
     refine cT9 ?_
     refine wp_region_lit ?_
     refine lv (.iface 36 (.int .i64 174)) (by kernel_rfl) ?_
     simp only [lay]
     refine lz (ow_raise _ _ rfl (by rfl) ?_)
     have qp : d.part = true := by unfold D6.part; simp [*]; try omega
     have hany : any18 d s t s' t' = ([], 174) := by
      rw [any18_i (by assumption)]
      unfold icmp18
      simp only [hM, hPE, hMR, hME]
      repeat (first|rw [if_pos (by first|assumption|omega)]|rw [if_neg (by first|assumption|omega|exact ne_true_of_eq_false (by assumption))])
     have e : pack18 d s t s' t' = (zero18, 174) := by
      unfold pack18
      rw [hany]
      dsimp only
      repeat (first|rw [if_pos (by first|assumption|omega)]|rw [if_neg (by first|assumption|omega|exact ne_true_of_eq_false (by assumption))])
     have b146 := bt (bt (bt hb34 hb46) hb88) hb98
     have b152 := bt (bt hb46 hb88) hb98
     have b158 := bt (bt b85 hb88) hb98
     refine leave18_fault (hg31.to ((bt b152 hb105).trans (hb110.mono (lq b152 ge103)))) ?_
     intro W163 hE164 hb165 hk166
     exact ⟨_, res_cc Try.results9 rfl ((hk166 _ _ (by omega) (hg24.to ((bt b146 hb105).trans (hb110.mono (lq b146 ge103))))).load (P := Try.prog) 35 Try.underlying35 rfl (by kernel_rfl)) rfl (load_errno hE164), ⟨pZ18, by rw [e]; rfl, by rw [e]; exact own4_z18 _ _⟩, ((bt b158 hb105).trans (hb110.mono (lq b158 ge103))).trans (hb165.mono (lq b42 ge32))⟩
    refine lv (.bool false) (by exact ex_gtr (by rfl) (by rfl) (by rfl) (decide_eq_false (by first|assumption|omega|decide))) ?_
    refine lv (.bool false) (by exact xp (b := false)) ?_
    refine lv (.bool false) (by exact xp (b := true)) ?_
    simp only [lay]
    refine wn ?_
    refine cF9 ?_
    refine wp_skip ?_
    change Code.wp _ _ _ _ _
    refine wp_sr ?_
    refine lv (pq9 g1 3) (by exact xf 3 15 Try.underlying28) ?_
    refine lv (.agg #[.int .u8 (d.src.getD 0 0), .int .u8 (d.src.getD 1 0), .int .u8 (d.src.getD 2 0), .int .u8 (d.src.getD 3 0), .int .u8 (d.src.getD 4 0), .int .u8 (d.src.getD 5 0), .int .u8 (d.src.getD 6 0), .int .u8 (d.src.getD 7 0), .int .u8 (d.src.getD 8 0), .int .u8 (d.src.getD 9 0), .int .u8 (d.src.getD 10 0), .int .u8 (d.src.getD 11 0), .int .u8 (d.src.getD 12 0), .int .u8 (d.src.getD 13 0), .int .u8 (d.src.getD 14 0), .int .u8 (d.src.getD 15 0)]) (by exact ex_loadAt (by rfl) (by rfl) (has116.loadIn (P := Try.prog) 3 [.int .u8 (d.src.getD 0 0), .int .u8 (d.src.getD 1 0), .int .u8 (d.src.getD 2 0), .int .u8 (d.src.getD 3 0), .int .u8 (d.src.getD 4 0), .int .u8 (d.src.getD 5 0), .int .u8 (d.src.getD 6 0), .int .u8 (d.src.getD 7 0), .int .u8 (d.src.getD 8 0), .int .u8 (d.src.getD 9 0), .int .u8 (d.src.getD 10 0), .int .u8 (d.src.getD 11 0), .int .u8 (d.src.getD 12 0), .int .u8 (d.src.getD 13 0), .int .u8 (d.src.getD 14 0), .int .u8 (d.src.getD 15 0)] (by kernel_rfl) 24 Try.underlying24 rfl (by kernel_rfl))) ?_
    refine lv (pq9 g1 19) (by exact xf 19 15 Try.underlying28) ?_
    refine lv (.agg #[.int .u8 (d.dst.getD 0 0), .int .u8 (d.dst.getD 1 0), .int .u8 (d.dst.getD 2 0), .int .u8 (d.dst.getD 3 0), .int .u8 (d.dst.getD 4 0), .int .u8 (d.dst.getD 5 0), .int .u8 (d.dst.getD 6 0), .int .u8 (d.dst.getD 7 0), .int .u8 (d.dst.getD 8 0), .int .u8 (d.dst.getD 9 0), .int .u8 (d.dst.getD 10 0), .int .u8 (d.dst.getD 11 0), .int .u8 (d.dst.getD 12 0), .int .u8 (d.dst.getD 13 0), .int .u8 (d.dst.getD 14 0), .int .u8 (d.dst.getD 15 0)]) (by exact ex_loadAt (by rfl) (by rfl) (has116.loadIn (P := Try.prog) 19 [.int .u8 (d.dst.getD 0 0), .int .u8 (d.dst.getD 1 0), .int .u8 (d.dst.getD 2 0), .int .u8 (d.dst.getD 3 0), .int .u8 (d.dst.getD 4 0), .int .u8 (d.dst.getD 5 0), .int .u8 (d.dst.getD 6 0), .int .u8 (d.dst.getD 7 0), .int .u8 (d.dst.getD 8 0), .int .u8 (d.dst.getD 9 0), .int .u8 (d.dst.getD 10 0), .int .u8 (d.dst.getD 11 0), .int .u8 (d.dst.getD 12 0), .int .u8 (d.dst.getD 13 0), .int .u8 (d.dst.getD 14 0), .int .u8 (d.dst.getD 15 0)] (by kernel_rfl) 24 Try.underlying24 rfl (by kernel_rfl))) ?_
    simp only [lay]
    refine lv (pq9 g1 41) (by exact xf 41 0 Try.underlying28) ?_
    refine lv (.slice p.bA d.bl.length p.bc) (by exact xc Try.underlying26 (has116.cell 41 rfl)) ?_
    simp only [lay]
    have b168 := bt (bt b85 hb88) hb98
    have l170 := lq b168 ge103
    have b171 := (bt b168 hb105).trans (hb110.mono l170)
    have by172 := yb6.to b171
    refine lz (ow_call (fun v w' => (∃ A' c', v = .tuple #[.agg (M.cells A' c'), .int .i64 PE] ∧ M.ok ∧ OwnB w' W107.heap.size (.slice A' M.bl.length c') M.bl) ∧ Below W107.heap.size W107 w') (by exact xk Try.func32) (by have := iparse6_x hR.ok.srcL hR.ok.dstL hR.ok.src hR.ok.dst by172; rw [show pse6 d.src d.dst d.bl.length 58 = ps18 d from rfl, hM, hPE] at this; exact this) ?_)
    rintro _ W173 ⟨⟨A175, c176, rfl, hk177, hO178⟩, hb174⟩
    have z179 := hb174.size
    simp only [lay]
    refine lv (.tuple #[.agg (M.cells A175 c176), .int .i64 PE]) (by exact xm) ?_
    refine lv (.agg (M.cells A175 c176)) (by exact xe) ?_
    refine lv (.int .i64 PE) (by exact xe) ?_
    simp only [lay]
    refine lz (oa #[.int .u8 0, .int .u8 0, .int .u32 0, .slice none 0 0] ?_)
    intro g180 W181 hg182 ge183 sz184 hb185
    have z186 := hb185.size
    simp only [lay]
    refine lz (ow_st 43 (.tmp 9) (.tmp 43) g180 (M.cells A175 c176) _ _ rfl (by rfl) (by rfl) hg182 (by kernel_rfl) rfl (by kernel_rfl) ?_)
    intro W187 hg188 bs189 hb190
    have z191 := hb190.size
    simp only [lay]
    refine lv (.int .i64 PE) (by exact xa) ?_
    simp only [lay]
    refine wn ?_
    refine wp_sr ?_
    refine lv (.int .i64 PE) (by exact xm) ?_
    simp only [lay]
    by_cases q192 : PE = 0
    case pos =>
     rw [q192]
     refine lz (ow_same (.tuple #[]) (by exact xk Try.func28) (must18_no W187) ?_)
     simp only [lay]
     refine wn ?_
     refine wp_sr ?_
     refine lv (.agg (M.cells A175 c176)) (by exact xo (hg188.load (P := Try.prog) 43 Try.underlying43 rfl (by kernel_rfl))) ?_
     simp only [lay]
     have b196 := bt (bt (bt (bt hb27 hb34) hb46) hb88) hb98
     have b200 := bt ((bt b196 hb105).trans (hb110.mono (lq b196 ge103))) hb174
     refine lv (.agg (e4c s' t')) (by exact xo ((hg17.to ((bt b200 hb185).trans (hb190.mono (lq b200 ge183)))).load (P := Try.prog) 32 Try.underlying32 rfl (by kernel_rfl))) ?_
     simp only [lay]
     have l205 : W173.heap.size ≤ g180 := Nat.le_of_eq ge183.symm
     have b206 := hb185.trans (hb190.mono l205)
     refine lz (ow_call (fun v w' => (∃ A' c', v = .tuple #[.agg (MR.cells A' c'), .int .i64 ME] ∧ MR.ok ∧ OwnB w' W187.heap.size (.slice A' MR.bl.length c') MR.bl) ∧ Below W187.heap.size W187 w') (by exact xk Try.func13) ((msg18_any M _ _ s' t' hE' W187 ⟨hk177, (own_byS (hO178.to b206))⟩).mono (by rintro e w' ⟨⟨A, c, rfl, hk, ho⟩, hb⟩; rw [hMR] at hk ho; exact ⟨_, rfl, ⟨A, c, by rw [hMR, hME], hk, ho⟩, hb⟩)) ?_)
     rintro _ W208 ⟨⟨A210, c211, rfl, hk212, hO213⟩, hb209⟩
     have z214 := hb209.size
     simp only [lay]
     refine lv (.tuple #[.agg (MR.cells A210 c211), .int .i64 ME]) (by exact xm) ?_
     refine lv (.agg (MR.cells A210 c211)) (by exact xe) ?_
     refine lv (.int .i64 ME) (by exact xe) ?_
     simp only [lay]
     refine lz (oa #[.int .u8 0, .int .u8 0, .int .u32 0, .slice none 0 0] ?_)
     intro g215 W216 hg217 ge218 sz219 hb220
     have z221 := hb220.size
     simp only [lay]
     refine lz (ow_st 43 (.tmp 11) (.tmp 51) g215 (MR.cells A210 c211) _ _ rfl (by rfl) (by rfl) hg217 (by kernel_rfl) rfl (by kernel_rfl) ?_)
     intro W222 hg223 bs224 hb225
     have z226 := hb225.size
     simp only [lay]
     refine lv (.int .i64 ME) (by exact xa) ?_
     simp only [lay]
     refine wn ?_
     refine wp_sr ?_
     refine lv (.int .i64 ME) (by exact xm) ?_
     simp only [lay]
     by_cases q227 : ME = 0
     case pos =>
      have herr : MR.err = 0 := by rw [D7.err, if_neg (by have := msg18_len (m := M) (s := s') (t := t'); rw [hMR] at this; omega)]
      rw [q227]
      refine lz (ow_same (.tuple #[]) (by exact xk Try.func28) (must18_no W222) ?_)
      simp only [lay]
      refine wn ?_
      refine wp_sr ?_
      refine lv (.agg (MR.cells A210 c211)) (by exact xo (hg223.load (P := Try.prog) 43 Try.underlying43 rfl (by kernel_rfl))) ?_
      simp only [lay]
      have l228 : W208.heap.size ≤ g215 := Nat.le_of_eq ge218.symm
      have b229 := hb220.trans (hb225.mono l228)
      refine lz (ow_call (fun v w' => (∃ u, v = .tuple #[u, .int .i64 0] ∧ OwnB w' W222.heap.size u (MR.write [])) ∧ Below W222.heap.size W222 w') (by exact xk Try.func33) (by have := iwrite4_x (w := W222) ⟨hk212, (own_byS (hO213.to b229))⟩; rw [herr] at this; exact this) ?_)
      rintro _ W231 ⟨⟨u233, rfl, hO234⟩, hb232⟩
      have z235 := hb232.size
      obtain ⟨A236, c237, rfl, y238⟩ := hO234.by_
      simp only [lay]
      refine lv (.tuple #[.slice A236 ((MR.write []).length) c237, .int .i64 0]) (by exact xm) ?_
      refine lv (.slice A236 ((MR.write []).length) c237) (by exact xe) ?_
      refine lv (.int .i64 0) (by exact xe) ?_
      refine lv (pq9 g100 16) (by exact xf 16 0 Try.underlying35) ?_
      simp only [lay]
      have b246 := bt ((bt hb174 hb185).trans (hb190.mono (lq hb174 ge183))) hb209
      refine lz (ow_st1 26 (.tmp 60) (.tmp 58) g100 16 (.slice A236 ((MR.write []).length) c237) _ #[.int .u8 ((head18 d s t []).tos), .int .u16 ((head18 d s t []).id), .bool ((head18 d s t []).df), .bool ((head18 d s t []).mf), .int .i64 ((head18 d s t []).off), .int .u8 ((head18 d s t []).ttl), .int .u8 ((head18 d s t []).proto), .int .u8 ((head18 d s t []).s0), .int .u8 ((head18 d s t []).s1), .int .u8 ((head18 d s t []).s2), .int .u8 ((head18 d s t []).s3), .int .u8 ((head18 d s t []).d0), .int .u8 ((head18 d s t []).d1), .int .u8 ((head18 d s t []).d2), .int .u8 ((head18 d s t []).d3), .slice pZ18.oA ((head18 d s t []).ol.length) pZ18.oc, .slice A236 ((MR.write []).length) c237] _ rfl (by rfl) (by rfl) rfl (by kernel_rfl) (hg108.to (bt ((bt b246 hb220).trans (hb225.mono (lq b246 ge218))) hb232)) rfl rfl (by kernel_rfl) ?_)
      intro W239 hg240 bs241 hb242
      have b252 := bt b206 hb209
      have z266 := hb242.size
      have own271 := hO234.but6 bs241 (by omega)
      simp only [lay]
      refine lv (.int .i64 0) (by exact xa) ?_
      simp only [lay]
      refine wn ?_
      refine wp_region_lit ?_
      refine lv (.int .i64 0) (by exact xm) ?_
      simp only [lay]
      refine lz (ow_same (.tuple #[]) (by exact xk Try.func28) (must18_no W239) ?_)
      simp only [lay]
      refine wn ?_
      refine wp_seq ?_
      refine wp_sr ?_
      refine lv (.agg #[.int .u8 ((head18 d s t []).tos), .int .u16 ((head18 d s t []).id), .bool ((head18 d s t []).df), .bool ((head18 d s t []).mf), .int .i64 ((head18 d s t []).off), .int .u8 ((head18 d s t []).ttl), .int .u8 ((head18 d s t []).proto), .int .u8 ((head18 d s t []).s0), .int .u8 ((head18 d s t []).s1), .int .u8 ((head18 d s t []).s2), .int .u8 ((head18 d s t []).s3), .int .u8 ((head18 d s t []).d0), .int .u8 ((head18 d s t []).d1), .int .u8 ((head18 d s t []).d2), .int .u8 ((head18 d s t []).d3), .slice pZ18.oA ((head18 d s t []).ol.length) pZ18.oc, .slice A236 ((MR.write []).length) c237]) (by exact xo (hg240.load (P := Try.prog) 35 Try.underlying35 rfl (by kernel_rfl))) ?_
      simp only [lay]
      refine lz (ow_call (fun v w' => v = .int .i64 ((head18 d s t (MR.write [])).check) ∧ Below W239.heap.size W239 w') (by exact xk Try.func35) (check_x (head18_rd hR.ok hE (A := A236) (c := c237) (own_byS own271))) ?_)
      rintro _ W272 ⟨rfl, hb273⟩
      have z274 := hb273.size
      simp only [lay]
      by_cases q275 : (head18 d s t (MR.write [])).check = 0
      case pos =>
       refine lv (.bool false) (by exact neq_int_eq (by rfl) (by rfl) (by rfl) (by first|assumption|omega)) ?_
       simp only [lay]
       refine wn ?_
       refine cF9 ?_
       refine wp_skip ?_
       change Code.wp _ _ _ _ _
       refine wp_sr ?_
       have has276 := hg240.to hb273
       refine lv (.agg #[.int .u8 ((head18 d s t []).tos), .int .u16 ((head18 d s t []).id), .bool ((head18 d s t []).df), .bool ((head18 d s t []).mf), .int .i64 ((head18 d s t []).off), .int .u8 ((head18 d s t []).ttl), .int .u8 ((head18 d s t []).proto), .int .u8 ((head18 d s t []).s0), .int .u8 ((head18 d s t []).s1), .int .u8 ((head18 d s t []).s2), .int .u8 ((head18 d s t []).s3), .int .u8 ((head18 d s t []).d0), .int .u8 ((head18 d s t []).d1), .int .u8 ((head18 d s t []).d2), .int .u8 ((head18 d s t []).d3), .slice pZ18.oA ((head18 d s t []).ol.length) pZ18.oc, .slice A236 ((MR.write []).length) c237]) (by exact xo (has276.load (P := Try.prog) 35 Try.underlying35 rfl (by kernel_rfl))) ?_
       simp only [lay]
       have b283 := bt (bt (bt hb34 hb46) hb88) hb98
       have l285 := lq b283 ge103
       have b287 := bt ((bt b283 hb105).trans (hb110.mono l285)) hb174
       have b291 := bt ((bt b287 hb185).trans (hb190.mono (lq b287 ge183))) hb209
       refine lz (ow_st 35 (.tmp 6) (.tmp 71) g22 #[.int .u8 ((head18 d s t []).tos), .int .u16 ((head18 d s t []).id), .bool ((head18 d s t []).df), .bool ((head18 d s t []).mf), .int .i64 ((head18 d s t []).off), .int .u8 ((head18 d s t []).ttl), .int .u8 ((head18 d s t []).proto), .int .u8 ((head18 d s t []).s0), .int .u8 ((head18 d s t []).s1), .int .u8 ((head18 d s t []).s2), .int .u8 ((head18 d s t []).s3), .int .u8 ((head18 d s t []).d0), .int .u8 ((head18 d s t []).d1), .int .u8 ((head18 d s t []).d2), .int .u8 ((head18 d s t []).d3), .slice pZ18.oA ((head18 d s t []).ol.length) pZ18.oc, .slice A236 ((MR.write []).length) c237] _ _ rfl (by rfl) (by rfl) (hg24.to (bt ((bt ((bt b291 hb220).trans (hb225.mono (lq b291 ge218))) hb232).trans (hb242.mono l285)) hb273)) (by kernel_rfl) rfl (by kernel_rfl) ?_)
       intro W277 hg278 bs279 hb280
       have b300 := bt (bt hb46 hb88) hb98
       have l302 := lq b300 ge103
       have b304 := bt ((bt b300 hb105).trans (hb110.mono l302)) hb174
       have b308 := bt ((bt b304 hb185).trans (hb190.mono (lq b304 ge183))) hb209
       have z321 := hb280.size
       simp only [lay]
       refine lz (ow_st1 36 (.tmp 7) (.const (.int .i64 0)) g29 0 (.int .i64 0) _ #[.int .i64 0] _ rfl (by rfl) (by rfl) rfl (by kernel_rfl) ((hg31.to (bt ((bt ((bt b308 hb220).trans (hb225.mono (lq b308 ge218))) hb232).trans (hb242.mono l302)) hb273)).but6 bs279 (by omega)) rfl rfl (by kernel_rfl) ?_)
       intro W329 hg330 bs331 hb332
       have z333 := hb332.size
       have own334 := ((((hO178.to (bt ((bt b252 hb220).trans (hb225.mono (lq b252 ge218))) hb232)).but6 bs241 (by omega)).to hb273).but6 bs279 (by omega)).but6 bs331 (by omega)
       have has335 := ((((hg188.to (bt ((bt hb209 hb220).trans (hb225.mono (lq hb209 ge218))) hb232)).but6 bs241 (by omega)).to hb273).but6 bs279 (by omega)).but6 bs331 (by omega)
       have own336 := ((((hO213.to (bt b229 hb232)).but6 bs241 (by omega)).to hb273).but6 bs279 (by omega)).but6 bs331 (by omega)
       have has337 := ((((hg223.to hb232).but6 bs241 (by omega)).to hb273).but6 bs279 (by omega)).but6 bs331 (by omega)
       have has339 := (has276.but6 bs279 (by omega)).but6 bs331 (by omega)
       simp only [lay]
       refine wn ?_
       refine wp_ret ?_
       try simp only [Exit.then]
       have b341 := bt b171 hb174
       have b345 := bt ((bt b341 hb185).trans (hb190.mono (lq b341 ge183))) hb209
       have b348 := (bt b345 hb220).trans (hb225.mono (lq b345 ge218))
       have qp : d.part = false := by unfold D6.part; simp [*]; try omega
       have hany : any18 d s t s' t' = (MR.write [], 0) := by
        rw [any18_i (by assumption)]
        unfold icmp18
        simp only [hM, hPE, hMR, hME]
        repeat (first|rw [if_pos (by first|assumption|omega)]|rw [if_neg (by first|assumption|omega|exact ne_true_of_eq_false (by assumption))])
       have e : pack18 d s t s' t' = (head18 d s t (MR.write []), 0) := by
        unfold pack18
        rw [hany]
        dsimp only
        repeat (first|rw [if_pos (by first|assumption|omega)]|rw [if_neg (by first|assumption|omega|exact ne_true_of_eq_false (by assumption))])
       have h6 : Has _ _ (.cells ((head18 d s t (MR.write [])).cells (pB4 A236 c237)) 35 (0, 0)) := (hg278.but6 bs331 (by omega))
       exact leave18_ok (res_cc Try.results9 rfl (h6.load (P := Try.prog) 35 Try.underlying35 rfl (by kernel_rfl)) rfl (load_errno hg330)) ⟨⟨_, by rw [e], by rw [e]; exact head18_own hR.ok hE ((((own271.to hb273).but6 bs279 (by omega)).but6 bs331 (by omega)).more b348.size)⟩, (((bt ((bt b348 hb232).trans (hb242.mono l170)) hb273).trans (hb280.mono (lq b41 ge25))).trans (hb332.mono (lq b42 ge32)))⟩
      refine lv (.bool true) (by exact neq_int_ne (by rfl) (by rfl) (by rfl) (by first|assumption|omega)) ?_
      simp only [lay]
      refine wn ?_
      refine cT9 ?_
      refine wp_region_lit ?_
      refine lv (.iface 36 (.int .i64 2)) (by kernel_rfl) ?_
      simp only [lay]
      refine lz (ow_raise _ _ rfl (by rfl) ?_)
      have qp : d.part = false := by unfold D6.part; simp [*]; try omega
      have hany : any18 d s t s' t' = (MR.write [], 0) := by
       rw [any18_i (by assumption)]
       unfold icmp18
       simp only [hM, hPE, hMR, hME]
       repeat (first|rw [if_pos (by first|assumption|omega)]|rw [if_neg (by first|assumption|omega|exact ne_true_of_eq_false (by assumption))])
      have e : pack18 d s t s' t' = (zero18, 2) := by
       unfold pack18
       rw [hany]
       dsimp only
       repeat (first|rw [if_pos (by first|assumption|omega)]|rw [if_neg (by first|assumption|omega|exact ne_true_of_eq_false (by assumption))])
      have b358 := bt (bt (bt hb34 hb46) hb88) hb98
      have l360 := lq b358 ge103
      have b362 := bt ((bt b358 hb105).trans (hb110.mono l360)) hb174
      have b366 := bt ((bt b362 hb185).trans (hb190.mono (lq b362 ge183))) hb209
      have b375 := bt (bt hb46 hb88) hb98
      have l377 := lq b375 ge103
      have b379 := bt ((bt b375 hb105).trans (hb110.mono l377)) hb174
      have b383 := bt ((bt b379 hb185).trans (hb190.mono (lq b379 ge183))) hb209
      have b391 := bt b171 hb174
      have b395 := bt ((bt b391 hb185).trans (hb190.mono (lq b391 ge183))) hb209
      refine leave18_fault (hg31.to (bt ((bt ((bt b383 hb220).trans (hb225.mono (lq b383 ge218))) hb232).trans (hb242.mono l377)) hb273)) ?_
      intro W403 hE404 hb405 hk406
      exact ⟨_, res_cc Try.results9 rfl ((hk406 _ _ (by omega) (hg24.to (bt ((bt ((bt b366 hb220).trans (hb225.mono (lq b366 ge218))) hb232).trans (hb242.mono l360)) hb273))).load (P := Try.prog) 35 Try.underlying35 rfl (by kernel_rfl)) rfl (load_errno hE404), ⟨pZ18, by rw [e]; rfl, by rw [e]; exact own4_z18 _ _⟩, (bt ((bt ((bt b395 hb220).trans (hb225.mono (lq b395 ge218))) hb232).trans (hb242.mono l170)) hb273).trans (hb405.mono (lq b42 ge32))⟩
     refine lz (ow_panic [{ v := .iface 36 (.int .i64 ME), recovered := false }] (fun w' => W222 = w') (by exact xk Try.func28) (must18_yes ME q227 W222) ?_)
     rintro _ rfl
     have qp : d.part = false := by unfold D6.part; simp [*]; try omega
     have hany : any18 d s t s' t' = ([], ME) := by
      rw [any18_i (by assumption)]
      unfold icmp18
      simp only [hM, hPE, hMR, hME]
      repeat (first|rw [if_pos (by first|assumption|omega)]|rw [if_neg (by first|assumption|omega|exact ne_true_of_eq_false (by assumption))])
     have e : pack18 d s t s' t' = (zero18, ME) := by
      unfold pack18
      rw [hany]
      dsimp only
      repeat (first|rw [if_pos (by first|assumption|omega)]|rw [if_neg (by first|assumption|omega|exact ne_true_of_eq_false (by assumption))])
     have b409 := bt (bt (bt hb34 hb46) hb88) hb98
     have b413 := bt ((bt b409 hb105).trans (hb110.mono (lq b409 ge103))) hb174
     have b417 := bt ((bt b413 hb185).trans (hb190.mono (lq b413 ge183))) hb209
     have b423 := bt (bt hb46 hb88) hb98
     have b427 := bt ((bt b423 hb105).trans (hb110.mono (lq b423 ge103))) hb174
     have b431 := bt ((bt b427 hb185).trans (hb190.mono (lq b427 ge183))) hb209
     have b436 := bt b171 hb174
     have b440 := bt ((bt b436 hb185).trans (hb190.mono (lq b436 ge183))) hb209
     refine leave18_fault (hg31.to ((bt b431 hb220).trans (hb225.mono (lq b431 ge218)))) ?_
     intro W445 hE446 hb447 hk448
     exact ⟨_, res_cc Try.results9 rfl ((hk448 _ _ (by omega) (hg24.to ((bt b417 hb220).trans (hb225.mono (lq b417 ge218))))).load (P := Try.prog) 35 Try.underlying35 rfl (by kernel_rfl)) rfl (load_errno hE446), ⟨pZ18, by rw [e]; rfl, by rw [e]; exact own4_z18 _ _⟩, ((bt b440 hb220).trans (hb225.mono (lq b440 ge218))).trans (hb447.mono (lq b42 ge32))⟩
    refine lz (ow_panic [{ v := .iface 36 (.int .i64 PE), recovered := false }] (fun w' => W187 = w') (by exact xk Try.func28) (must18_yes PE q192 W187) ?_)
    rintro _ rfl
    have qp : d.part = false := by unfold D6.part; simp [*]; try omega
    have hany : any18 d s t s' t' = ([], PE) := by
     rw [any18_i (by assumption)]
     unfold icmp18
     simp only [hM, hPE, hMR, hME]
     repeat (first|rw [if_pos (by first|assumption|omega)]|rw [if_neg (by first|assumption|omega|exact ne_true_of_eq_false (by assumption))])
    have e : pack18 d s t s' t' = (zero18, PE) := by
     unfold pack18
     rw [hany]
     dsimp only
     repeat (first|rw [if_pos (by first|assumption|omega)]|rw [if_neg (by first|assumption|omega|exact ne_true_of_eq_false (by assumption))])
    have b451 := bt (bt (bt hb34 hb46) hb88) hb98
    have b455 := bt ((bt b451 hb105).trans (hb110.mono (lq b451 ge103))) hb174
    have b461 := bt (bt hb46 hb88) hb98
    have b465 := bt ((bt b461 hb105).trans (hb110.mono (lq b461 ge103))) hb174
    have b470 := bt b171 hb174
    refine leave18_fault (hg31.to ((bt b465 hb185).trans (hb190.mono (lq b465 ge183)))) ?_
    intro W475 hE476 hb477 hk478
    exact ⟨_, res_cc Try.results9 rfl ((hk478 _ _ (by omega) (hg24.to ((bt b455 hb185).trans (hb190.mono (lq b455 ge183))))).load (P := Try.prog) 35 Try.underlying35 rfl (by kernel_rfl)) rfl (load_errno hE476), ⟨pZ18, by rw [e]; rfl, by rw [e]; exact own4_z18 _ _⟩, ((bt b470 hb185).trans (hb190.mono (lq b470 ge183))).trans (hb477.mono (lq b42 ge32))⟩
   replace q118 := eq_false_of_ne_true q118
   rw [q118]
   refine lzn ?_
   refine lzn ?_
   refine lzn ?_
   refine lzn ?_
   simp only [lay]
   refine lzn ?_
   refine lzn ?_
   refine lzn ?_
   refine lv (.bool false) (by exact xp (b := false)) ?_
   simp only [lay]
   refine wn ?_
   refine cF9 ?_
   refine wp_skip ?_
   change Code.wp _ _ _ _ _
   refine wp_sr ?_
   refine lv (pq9 g1 3) (by exact xf 3 15 Try.underlying28) ?_
   refine lv (.agg #[.int .u8 (d.src.getD 0 0), .int .u8 (d.src.getD 1 0), .int .u8 (d.src.getD 2 0), .int .u8 (d.src.getD 3 0), .int .u8 (d.src.getD 4 0), .int .u8 (d.src.getD 5 0), .int .u8 (d.src.getD 6 0), .int .u8 (d.src.getD 7 0), .int .u8 (d.src.getD 8 0), .int .u8 (d.src.getD 9 0), .int .u8 (d.src.getD 10 0), .int .u8 (d.src.getD 11 0), .int .u8 (d.src.getD 12 0), .int .u8 (d.src.getD 13 0), .int .u8 (d.src.getD 14 0), .int .u8 (d.src.getD 15 0)]) (by exact ex_loadAt (by rfl) (by rfl) (has116.loadIn (P := Try.prog) 3 [.int .u8 (d.src.getD 0 0), .int .u8 (d.src.getD 1 0), .int .u8 (d.src.getD 2 0), .int .u8 (d.src.getD 3 0), .int .u8 (d.src.getD 4 0), .int .u8 (d.src.getD 5 0), .int .u8 (d.src.getD 6 0), .int .u8 (d.src.getD 7 0), .int .u8 (d.src.getD 8 0), .int .u8 (d.src.getD 9 0), .int .u8 (d.src.getD 10 0), .int .u8 (d.src.getD 11 0), .int .u8 (d.src.getD 12 0), .int .u8 (d.src.getD 13 0), .int .u8 (d.src.getD 14 0), .int .u8 (d.src.getD 15 0)] (by kernel_rfl) 24 Try.underlying24 rfl (by kernel_rfl))) ?_
   refine lv (pq9 g1 19) (by exact xf 19 15 Try.underlying28) ?_
   refine lv (.agg #[.int .u8 (d.dst.getD 0 0), .int .u8 (d.dst.getD 1 0), .int .u8 (d.dst.getD 2 0), .int .u8 (d.dst.getD 3 0), .int .u8 (d.dst.getD 4 0), .int .u8 (d.dst.getD 5 0), .int .u8 (d.dst.getD 6 0), .int .u8 (d.dst.getD 7 0), .int .u8 (d.dst.getD 8 0), .int .u8 (d.dst.getD 9 0), .int .u8 (d.dst.getD 10 0), .int .u8 (d.dst.getD 11 0), .int .u8 (d.dst.getD 12 0), .int .u8 (d.dst.getD 13 0), .int .u8 (d.dst.getD 14 0), .int .u8 (d.dst.getD 15 0)]) (by exact ex_loadAt (by rfl) (by rfl) (has116.loadIn (P := Try.prog) 19 [.int .u8 (d.dst.getD 0 0), .int .u8 (d.dst.getD 1 0), .int .u8 (d.dst.getD 2 0), .int .u8 (d.dst.getD 3 0), .int .u8 (d.dst.getD 4 0), .int .u8 (d.dst.getD 5 0), .int .u8 (d.dst.getD 6 0), .int .u8 (d.dst.getD 7 0), .int .u8 (d.dst.getD 8 0), .int .u8 (d.dst.getD 9 0), .int .u8 (d.dst.getD 10 0), .int .u8 (d.dst.getD 11 0), .int .u8 (d.dst.getD 12 0), .int .u8 (d.dst.getD 13 0), .int .u8 (d.dst.getD 14 0), .int .u8 (d.dst.getD 15 0)] (by kernel_rfl) 24 Try.underlying24 rfl (by kernel_rfl))) ?_
   simp only [lay]
   refine lv (pq9 g1 41) (by exact xf 41 0 Try.underlying28) ?_
   refine lv (.slice p.bA d.bl.length p.bc) (by exact xc Try.underlying26 (has116.cell 41 rfl)) ?_
   simp only [lay]
   have b480 := bt (bt b85 hb88) hb98
   have l482 := lq b480 ge103
   have b483 := (bt b480 hb105).trans (hb110.mono l482)
   have by484 := yb6.to b483
   refine lz (ow_call (fun v w' => (∃ A' c', v = .tuple #[.agg (M.cells A' c'), .int .i64 PE] ∧ M.ok ∧ OwnB w' W107.heap.size (.slice A' M.bl.length c') M.bl) ∧ Below W107.heap.size W107 w') (by exact xk Try.func32) (by have := iparse6_x hR.ok.srcL hR.ok.dstL hR.ok.src hR.ok.dst by484; rw [show pse6 d.src d.dst d.bl.length 58 = ps18 d from rfl, hM, hPE] at this; exact this) ?_)
   rintro _ W485 ⟨⟨A487, c488, rfl, hk489, hO490⟩, hb486⟩
   have z491 := hb486.size
   simp only [lay]
   refine lv (.tuple #[.agg (M.cells A487 c488), .int .i64 PE]) (by exact xm) ?_
   refine lv (.agg (M.cells A487 c488)) (by exact xe) ?_
   refine lv (.int .i64 PE) (by exact xe) ?_
   simp only [lay]
   refine lz (oa #[.int .u8 0, .int .u8 0, .int .u32 0, .slice none 0 0] ?_)
   intro g492 W493 hg494 ge495 sz496 hb497
   have z498 := hb497.size
   simp only [lay]
   refine lz (ow_st 43 (.tmp 9) (.tmp 43) g492 (M.cells A487 c488) _ _ rfl (by rfl) (by rfl) hg494 (by kernel_rfl) rfl (by kernel_rfl) ?_)
   intro W499 hg500 bs501 hb502
   have z503 := hb502.size
   simp only [lay]
   refine lv (.int .i64 PE) (by exact xa) ?_
   simp only [lay]
   refine wn ?_
   refine wp_sr ?_
   refine lv (.int .i64 PE) (by exact xm) ?_
   simp only [lay]
   by_cases q504 : PE = 0
   case pos =>
    rw [q504]
    refine lz (ow_same (.tuple #[]) (by exact xk Try.func28) (must18_no W499) ?_)
    simp only [lay]
    refine wn ?_
    refine wp_sr ?_
    refine lv (.agg (M.cells A487 c488)) (by exact xo (hg500.load (P := Try.prog) 43 Try.underlying43 rfl (by kernel_rfl))) ?_
    simp only [lay]
    have b508 := bt (bt (bt (bt hb27 hb34) hb46) hb88) hb98
    have b512 := bt ((bt b508 hb105).trans (hb110.mono (lq b508 ge103))) hb486
    refine lv (.agg (e4c s' t')) (by exact xo ((hg17.to ((bt b512 hb497).trans (hb502.mono (lq b512 ge495)))).load (P := Try.prog) 32 Try.underlying32 rfl (by kernel_rfl))) ?_
    simp only [lay]
    have l517 : W485.heap.size ≤ g492 := Nat.le_of_eq ge495.symm
    have b518 := hb497.trans (hb502.mono l517)
    refine lz (ow_call (fun v w' => (∃ A' c', v = .tuple #[.agg (MR.cells A' c'), .int .i64 ME] ∧ MR.ok ∧ OwnB w' W499.heap.size (.slice A' MR.bl.length c') MR.bl) ∧ Below W499.heap.size W499 w') (by exact xk Try.func13) ((msg18_any M _ _ s' t' hE' W499 ⟨hk489, (own_byS (hO490.to b518))⟩).mono (by rintro e w' ⟨⟨A, c, rfl, hk, ho⟩, hb⟩; rw [hMR] at hk ho; exact ⟨_, rfl, ⟨A, c, by rw [hMR, hME], hk, ho⟩, hb⟩)) ?_)
    rintro _ W520 ⟨⟨A522, c523, rfl, hk524, hO525⟩, hb521⟩
    have z526 := hb521.size
    simp only [lay]
    refine lv (.tuple #[.agg (MR.cells A522 c523), .int .i64 ME]) (by exact xm) ?_
    refine lv (.agg (MR.cells A522 c523)) (by exact xe) ?_
    refine lv (.int .i64 ME) (by exact xe) ?_
    simp only [lay]
    refine lz (oa #[.int .u8 0, .int .u8 0, .int .u32 0, .slice none 0 0] ?_)
    intro g527 W528 hg529 ge530 sz531 hb532
    have z533 := hb532.size
    simp only [lay]
    refine lz (ow_st 43 (.tmp 11) (.tmp 51) g527 (MR.cells A522 c523) _ _ rfl (by rfl) (by rfl) hg529 (by kernel_rfl) rfl (by kernel_rfl) ?_)
    intro W534 hg535 bs536 hb537
    have z538 := hb537.size
    simp only [lay]
    refine lv (.int .i64 ME) (by exact xa) ?_
    simp only [lay]
    refine wn ?_
    refine wp_sr ?_
    refine lv (.int .i64 ME) (by exact xm) ?_
    simp only [lay]
    by_cases q539 : ME = 0
    case pos =>
     have herr : MR.err = 0 := by rw [D7.err, if_neg (by have := msg18_len (m := M) (s := s') (t := t'); rw [hMR] at this; omega)]
     rw [q539]
     refine lz (ow_same (.tuple #[]) (by exact xk Try.func28) (must18_no W534) ?_)
     simp only [lay]
     refine wn ?_
     refine wp_sr ?_
     refine lv (.agg (MR.cells A522 c523)) (by exact xo (hg535.load (P := Try.prog) 43 Try.underlying43 rfl (by kernel_rfl))) ?_
     simp only [lay]
     have l540 : W520.heap.size ≤ g527 := Nat.le_of_eq ge530.symm
     have b541 := hb532.trans (hb537.mono l540)
     refine lz (ow_call (fun v w' => (∃ u, v = .tuple #[u, .int .i64 0] ∧ OwnB w' W534.heap.size u (MR.write [])) ∧ Below W534.heap.size W534 w') (by exact xk Try.func33) (by have := iwrite4_x (w := W534) ⟨hk524, (own_byS (hO525.to b541))⟩; rw [herr] at this; exact this) ?_)
     rintro _ W543 ⟨⟨u545, rfl, hO546⟩, hb544⟩
     have z547 := hb544.size
     obtain ⟨A548, c549, rfl, y550⟩ := hO546.by_
     simp only [lay]
     refine lv (.tuple #[.slice A548 ((MR.write []).length) c549, .int .i64 0]) (by exact xm) ?_
     refine lv (.slice A548 ((MR.write []).length) c549) (by exact xe) ?_
     refine lv (.int .i64 0) (by exact xe) ?_
     refine lv (pq9 g100 16) (by exact xf 16 0 Try.underlying35) ?_
     simp only [lay]
     have b558 := bt ((bt hb486 hb497).trans (hb502.mono (lq hb486 ge495))) hb521
     refine lz (ow_st1 26 (.tmp 60) (.tmp 58) g100 16 (.slice A548 ((MR.write []).length) c549) _ #[.int .u8 ((head18 d s t []).tos), .int .u16 ((head18 d s t []).id), .bool ((head18 d s t []).df), .bool ((head18 d s t []).mf), .int .i64 ((head18 d s t []).off), .int .u8 ((head18 d s t []).ttl), .int .u8 ((head18 d s t []).proto), .int .u8 ((head18 d s t []).s0), .int .u8 ((head18 d s t []).s1), .int .u8 ((head18 d s t []).s2), .int .u8 ((head18 d s t []).s3), .int .u8 ((head18 d s t []).d0), .int .u8 ((head18 d s t []).d1), .int .u8 ((head18 d s t []).d2), .int .u8 ((head18 d s t []).d3), .slice pZ18.oA ((head18 d s t []).ol.length) pZ18.oc, .slice A548 ((MR.write []).length) c549] _ rfl (by rfl) (by rfl) rfl (by kernel_rfl) (hg108.to (bt ((bt b558 hb532).trans (hb537.mono (lq b558 ge530))) hb544)) rfl rfl (by kernel_rfl) ?_)
     intro W551 hg552 bs553 hb554
     have b564 := bt b518 hb521
     have z578 := hb554.size
     have own583 := hO546.but6 bs553 (by omega)
     simp only [lay]
     refine lv (.int .i64 0) (by exact xa) ?_
     simp only [lay]
     refine wn ?_
     refine wp_region_lit ?_
     refine lv (.int .i64 0) (by exact xm) ?_
     simp only [lay]
     refine lz (ow_same (.tuple #[]) (by exact xk Try.func28) (must18_no W551) ?_)
     simp only [lay]
     refine wn ?_
     refine wp_seq ?_
     refine wp_sr ?_
     refine lv (.agg #[.int .u8 ((head18 d s t []).tos), .int .u16 ((head18 d s t []).id), .bool ((head18 d s t []).df), .bool ((head18 d s t []).mf), .int .i64 ((head18 d s t []).off), .int .u8 ((head18 d s t []).ttl), .int .u8 ((head18 d s t []).proto), .int .u8 ((head18 d s t []).s0), .int .u8 ((head18 d s t []).s1), .int .u8 ((head18 d s t []).s2), .int .u8 ((head18 d s t []).s3), .int .u8 ((head18 d s t []).d0), .int .u8 ((head18 d s t []).d1), .int .u8 ((head18 d s t []).d2), .int .u8 ((head18 d s t []).d3), .slice pZ18.oA ((head18 d s t []).ol.length) pZ18.oc, .slice A548 ((MR.write []).length) c549]) (by exact xo (hg552.load (P := Try.prog) 35 Try.underlying35 rfl (by kernel_rfl))) ?_
     simp only [lay]
     refine lz (ow_call (fun v w' => v = .int .i64 ((head18 d s t (MR.write [])).check) ∧ Below W551.heap.size W551 w') (by exact xk Try.func35) (check_x (head18_rd hR.ok hE (A := A548) (c := c549) (own_byS own583))) ?_)
     rintro _ W584 ⟨rfl, hb585⟩
     have z586 := hb585.size
     simp only [lay]
     by_cases q587 : (head18 d s t (MR.write [])).check = 0
     case pos =>
      refine lv (.bool false) (by exact neq_int_eq (by rfl) (by rfl) (by rfl) (by first|assumption|omega)) ?_
      simp only [lay]
      refine wn ?_
      refine cF9 ?_
      refine wp_skip ?_
      change Code.wp _ _ _ _ _
      refine wp_sr ?_
      have has588 := hg552.to hb585
      refine lv (.agg #[.int .u8 ((head18 d s t []).tos), .int .u16 ((head18 d s t []).id), .bool ((head18 d s t []).df), .bool ((head18 d s t []).mf), .int .i64 ((head18 d s t []).off), .int .u8 ((head18 d s t []).ttl), .int .u8 ((head18 d s t []).proto), .int .u8 ((head18 d s t []).s0), .int .u8 ((head18 d s t []).s1), .int .u8 ((head18 d s t []).s2), .int .u8 ((head18 d s t []).s3), .int .u8 ((head18 d s t []).d0), .int .u8 ((head18 d s t []).d1), .int .u8 ((head18 d s t []).d2), .int .u8 ((head18 d s t []).d3), .slice pZ18.oA ((head18 d s t []).ol.length) pZ18.oc, .slice A548 ((MR.write []).length) c549]) (by exact xo (has588.load (P := Try.prog) 35 Try.underlying35 rfl (by kernel_rfl))) ?_
      simp only [lay]
      have b595 := bt (bt (bt hb34 hb46) hb88) hb98
      have l597 := lq b595 ge103
      have b599 := bt ((bt b595 hb105).trans (hb110.mono l597)) hb486
      have b603 := bt ((bt b599 hb497).trans (hb502.mono (lq b599 ge495))) hb521
      refine lz (ow_st 35 (.tmp 6) (.tmp 71) g22 #[.int .u8 ((head18 d s t []).tos), .int .u16 ((head18 d s t []).id), .bool ((head18 d s t []).df), .bool ((head18 d s t []).mf), .int .i64 ((head18 d s t []).off), .int .u8 ((head18 d s t []).ttl), .int .u8 ((head18 d s t []).proto), .int .u8 ((head18 d s t []).s0), .int .u8 ((head18 d s t []).s1), .int .u8 ((head18 d s t []).s2), .int .u8 ((head18 d s t []).s3), .int .u8 ((head18 d s t []).d0), .int .u8 ((head18 d s t []).d1), .int .u8 ((head18 d s t []).d2), .int .u8 ((head18 d s t []).d3), .slice pZ18.oA ((head18 d s t []).ol.length) pZ18.oc, .slice A548 ((MR.write []).length) c549] _ _ rfl (by rfl) (by rfl) (hg24.to (bt ((bt ((bt b603 hb532).trans (hb537.mono (lq b603 ge530))) hb544).trans (hb554.mono l597)) hb585)) (by kernel_rfl) rfl (by kernel_rfl) ?_)
      intro W589 hg590 bs591 hb592
      have b612 := bt (bt hb46 hb88) hb98
      have l614 := lq b612 ge103
      have b616 := bt ((bt b612 hb105).trans (hb110.mono l614)) hb486
      have b620 := bt ((bt b616 hb497).trans (hb502.mono (lq b616 ge495))) hb521
      have z633 := hb592.size
      simp only [lay]
      refine lz (ow_st1 36 (.tmp 7) (.const (.int .i64 0)) g29 0 (.int .i64 0) _ #[.int .i64 0] _ rfl (by rfl) (by rfl) rfl (by kernel_rfl) ((hg31.to (bt ((bt ((bt b620 hb532).trans (hb537.mono (lq b620 ge530))) hb544).trans (hb554.mono l614)) hb585)).but6 bs591 (by omega)) rfl rfl (by kernel_rfl) ?_)
      intro W641 hg642 bs643 hb644
      have z645 := hb644.size
      have own646 := ((((hO490.to (bt ((bt b564 hb532).trans (hb537.mono (lq b564 ge530))) hb544)).but6 bs553 (by omega)).to hb585).but6 bs591 (by omega)).but6 bs643 (by omega)
      have has647 := ((((hg500.to (bt ((bt hb521 hb532).trans (hb537.mono (lq hb521 ge530))) hb544)).but6 bs553 (by omega)).to hb585).but6 bs591 (by omega)).but6 bs643 (by omega)
      have own648 := ((((hO525.to (bt b541 hb544)).but6 bs553 (by omega)).to hb585).but6 bs591 (by omega)).but6 bs643 (by omega)
      have has649 := ((((hg535.to hb544).but6 bs553 (by omega)).to hb585).but6 bs591 (by omega)).but6 bs643 (by omega)
      have has651 := (has588.but6 bs591 (by omega)).but6 bs643 (by omega)
      simp only [lay]
      refine wn ?_
      refine wp_ret ?_
      try simp only [Exit.then]
      have b653 := bt b483 hb486
      have b657 := bt ((bt b653 hb497).trans (hb502.mono (lq b653 ge495))) hb521
      have b660 := (bt b657 hb532).trans (hb537.mono (lq b657 ge530))
      have qp : d.part = false := by unfold D6.part; simp [*]; try omega
      have hany : any18 d s t s' t' = (MR.write [], 0) := by
       rw [any18_i (by assumption)]
       unfold icmp18
       simp only [hM, hPE, hMR, hME]
       repeat (first|rw [if_pos (by first|assumption|omega)]|rw [if_neg (by first|assumption|omega|exact ne_true_of_eq_false (by assumption))])
      have e : pack18 d s t s' t' = (head18 d s t (MR.write []), 0) := by
       unfold pack18
       rw [hany]
       dsimp only
       repeat (first|rw [if_pos (by first|assumption|omega)]|rw [if_neg (by first|assumption|omega|exact ne_true_of_eq_false (by assumption))])
      have h6 : Has _ _ (.cells ((head18 d s t (MR.write [])).cells (pB4 A548 c549)) 35 (0, 0)) := (hg590.but6 bs643 (by omega))
      exact leave18_ok (res_cc Try.results9 rfl (h6.load (P := Try.prog) 35 Try.underlying35 rfl (by kernel_rfl)) rfl (load_errno hg642)) ⟨⟨_, by rw [e], by rw [e]; exact head18_own hR.ok hE ((((own583.to hb585).but6 bs591 (by omega)).but6 bs643 (by omega)).more b660.size)⟩, (((bt ((bt b660 hb544).trans (hb554.mono l482)) hb585).trans (hb592.mono (lq b41 ge25))).trans (hb644.mono (lq b42 ge32)))⟩
     refine lv (.bool true) (by exact neq_int_ne (by rfl) (by rfl) (by rfl) (by first|assumption|omega)) ?_
     simp only [lay]
     refine wn ?_
     refine cT9 ?_
     refine wp_region_lit ?_
     refine lv (.iface 36 (.int .i64 2)) (by kernel_rfl) ?_
     simp only [lay]
     refine lz (ow_raise _ _ rfl (by rfl) ?_)
     have qp : d.part = false := by unfold D6.part; simp [*]; try omega
     have hany : any18 d s t s' t' = (MR.write [], 0) := by
      rw [any18_i (by assumption)]
      unfold icmp18
      simp only [hM, hPE, hMR, hME]
      repeat (first|rw [if_pos (by first|assumption|omega)]|rw [if_neg (by first|assumption|omega|exact ne_true_of_eq_false (by assumption))])
     have e : pack18 d s t s' t' = (zero18, 2) := by
      unfold pack18
      rw [hany]
      dsimp only
      repeat (first|rw [if_pos (by first|assumption|omega)]|rw [if_neg (by first|assumption|omega|exact ne_true_of_eq_false (by assumption))])
     have b670 := bt (bt (bt hb34 hb46) hb88) hb98
     have l672 := lq b670 ge103
     have b674 := bt ((bt b670 hb105).trans (hb110.mono l672)) hb486
     have b678 := bt ((bt b674 hb497).trans (hb502.mono (lq b674 ge495))) hb521
     have b687 := bt (bt hb46 hb88) hb98
     have l689 := lq b687 ge103
     have b691 := bt ((bt b687 hb105).trans (hb110.mono l689)) hb486
     have b695 := bt ((bt b691 hb497).trans (hb502.mono (lq b691 ge495))) hb521
     have b703 := bt b483 hb486
     have b707 := bt ((bt b703 hb497).trans (hb502.mono (lq b703 ge495))) hb521
     refine leave18_fault (hg31.to (bt ((bt ((bt b695 hb532).trans (hb537.mono (lq b695 ge530))) hb544).trans (hb554.mono l689)) hb585)) ?_
     intro W715 hE716 hb717 hk718
     exact ⟨_, res_cc Try.results9 rfl ((hk718 _ _ (by omega) (hg24.to (bt ((bt ((bt b678 hb532).trans (hb537.mono (lq b678 ge530))) hb544).trans (hb554.mono l672)) hb585))).load (P := Try.prog) 35 Try.underlying35 rfl (by kernel_rfl)) rfl (load_errno hE716), ⟨pZ18, by rw [e]; rfl, by rw [e]; exact own4_z18 _ _⟩, (bt ((bt ((bt b707 hb532).trans (hb537.mono (lq b707 ge530))) hb544).trans (hb554.mono l482)) hb585).trans (hb717.mono (lq b42 ge32))⟩
    refine lz (ow_panic [{ v := .iface 36 (.int .i64 ME), recovered := false }] (fun w' => W534 = w') (by exact xk Try.func28) (must18_yes ME q539 W534) ?_)
    rintro _ rfl
    have qp : d.part = false := by unfold D6.part; simp [*]; try omega
    have hany : any18 d s t s' t' = ([], ME) := by
     rw [any18_i (by assumption)]
     unfold icmp18
     simp only [hM, hPE, hMR, hME]
     repeat (first|rw [if_pos (by first|assumption|omega)]|rw [if_neg (by first|assumption|omega|exact ne_true_of_eq_false (by assumption))])
    have e : pack18 d s t s' t' = (zero18, ME) := by
     unfold pack18
     rw [hany]
     dsimp only
     repeat (first|rw [if_pos (by first|assumption|omega)]|rw [if_neg (by first|assumption|omega|exact ne_true_of_eq_false (by assumption))])
    have b721 := bt (bt (bt hb34 hb46) hb88) hb98
    have b725 := bt ((bt b721 hb105).trans (hb110.mono (lq b721 ge103))) hb486
    have b729 := bt ((bt b725 hb497).trans (hb502.mono (lq b725 ge495))) hb521
    have b735 := bt (bt hb46 hb88) hb98
    have b739 := bt ((bt b735 hb105).trans (hb110.mono (lq b735 ge103))) hb486
    have b743 := bt ((bt b739 hb497).trans (hb502.mono (lq b739 ge495))) hb521
    have b748 := bt b483 hb486
    have b752 := bt ((bt b748 hb497).trans (hb502.mono (lq b748 ge495))) hb521
    refine leave18_fault (hg31.to ((bt b743 hb532).trans (hb537.mono (lq b743 ge530)))) ?_
    intro W757 hE758 hb759 hk760
    exact ⟨_, res_cc Try.results9 rfl ((hk760 _ _ (by omega) (hg24.to ((bt b729 hb532).trans (hb537.mono (lq b729 ge530))))).load (P := Try.prog) 35 Try.underlying35 rfl (by kernel_rfl)) rfl (load_errno hE758), ⟨pZ18, by rw [e]; rfl, by rw [e]; exact own4_z18 _ _⟩, ((bt b752 hb532).trans (hb537.mono (lq b752 ge530))).trans (hb759.mono (lq b42 ge32))⟩
   refine lz (ow_panic [{ v := .iface 36 (.int .i64 PE), recovered := false }] (fun w' => W499 = w') (by exact xk Try.func28) (must18_yes PE q504 W499) ?_)
   rintro _ rfl
   have qp : d.part = false := by unfold D6.part; simp [*]; try omega
   have hany : any18 d s t s' t' = ([], PE) := by
    rw [any18_i (by assumption)]
    unfold icmp18
    simp only [hM, hPE, hMR, hME]
    repeat (first|rw [if_pos (by first|assumption|omega)]|rw [if_neg (by first|assumption|omega|exact ne_true_of_eq_false (by assumption))])
   have e : pack18 d s t s' t' = (zero18, PE) := by
    unfold pack18
    rw [hany]
    dsimp only
    repeat (first|rw [if_pos (by first|assumption|omega)]|rw [if_neg (by first|assumption|omega|exact ne_true_of_eq_false (by assumption))])
   have b763 := bt (bt (bt hb34 hb46) hb88) hb98
   have b767 := bt ((bt b763 hb105).trans (hb110.mono (lq b763 ge103))) hb486
   have b773 := bt (bt hb46 hb88) hb98
   have b777 := bt ((bt b773 hb105).trans (hb110.mono (lq b773 ge103))) hb486
   have b782 := bt b483 hb486
   refine leave18_fault (hg31.to ((bt b777 hb497).trans (hb502.mono (lq b777 ge495)))) ?_
   intro W787 hE788 hb789 hk790
   exact ⟨_, res_cc Try.results9 rfl ((hk790 _ _ (by omega) (hg24.to ((bt b767 hb497).trans (hb502.mono (lq b767 ge495))))).load (P := Try.prog) 35 Try.underlying35 rfl (by kernel_rfl)) rfl (load_errno hE788), ⟨pZ18, by rw [e]; rfl, by rw [e]; exact own4_z18 _ _⟩, ((bt b782 hb497).trans (hb502.mono (lq b782 ge495))).trans (hb789.mono (lq b42 ge32))⟩
  refine lv (.bool false) (by exact yqn) ?_
  simp only [lay]
  refine wn ?_
  refine cF9 ?_
  refine wp_region_lit ?_
  refine lv (.agg (d.cells p)) (by exact xo (has116.load (P := Try.prog) 28 Try.underlying28 rfl (by kernel_rfl))) ?_
  simp only [lay]
  have b791 := bt b95 hb98
  refine lv (.agg (e4c s t)) (by exact xo ((hg10.to ((bt b791 hb105).trans (hb110.mono (lq b791 ge103)))).load (P := Try.prog) 32 Try.underlying32 rfl (by kernel_rfl))) ?_
  simp only [lay]
  by_cases q796 : BE = 0
  case pos =>
   have b798 := bt (bt b85 hb88) hb98
   have l800 := lq b798 ge103
   have b801 := (bt b798 hb105).trans (hb110.mono l800)
   have rd802 := hR.to b801
   refine lz (ow_call (fun v w' => OwnB w' W107.heap.size v BL ∧ Below W107.heap.size W107 w') (by exact xk Try.func34) ((body18_any d p s t hE W107 rd802 hbl).mono fun e w' h => (by obtain ⟨v, hv, ho⟩ := h.1.1 (by rw [hBE]; exact q796); rw [hBL] at ho; exact ⟨v, hv, ho, h.2⟩)) ?_)
   rintro v805 W803 ⟨hO806, hb804⟩
   have z807 := hb804.size
   obtain ⟨A808, c809, rfl, y810⟩ := hO806.by_
   simp only [lay]
   refine lv (pq9 g100 16) (by exact xf 16 0 Try.underlying35) ?_
   simp only [lay]
   refine lz (ow_st1 26 (.tmp 66) (.tmp 65) g100 16 (.slice A808 BL.length c809) _ #[.int .u8 ((head18 d s t []).tos), .int .u16 ((head18 d s t []).id), .bool ((head18 d s t []).df), .bool ((head18 d s t []).mf), .int .i64 ((head18 d s t []).off), .int .u8 ((head18 d s t []).ttl), .int .u8 ((head18 d s t []).proto), .int .u8 ((head18 d s t []).s0), .int .u8 ((head18 d s t []).s1), .int .u8 ((head18 d s t []).s2), .int .u8 ((head18 d s t []).s3), .int .u8 ((head18 d s t []).d0), .int .u8 ((head18 d s t []).d1), .int .u8 ((head18 d s t []).d2), .int .u8 ((head18 d s t []).d3), .slice pZ18.oA ((head18 d s t []).ol.length) pZ18.oc, .slice A808 BL.length c809] _ rfl (by rfl) (by rfl) rfl (by kernel_rfl) (hg108.to hb804) rfl rfl (by kernel_rfl) ?_)
   intro W811 hg812 bs813 hb814
   have z816 := hb814.size
   have own817 := hO806.but6 bs813 (by omega)
   simp only [lay]
   refine wn ?_
   refine wp_seq ?_
   refine wp_sr ?_
   refine lv (.agg #[.int .u8 ((head18 d s t []).tos), .int .u16 ((head18 d s t []).id), .bool ((head18 d s t []).df), .bool ((head18 d s t []).mf), .int .i64 ((head18 d s t []).off), .int .u8 ((head18 d s t []).ttl), .int .u8 ((head18 d s t []).proto), .int .u8 ((head18 d s t []).s0), .int .u8 ((head18 d s t []).s1), .int .u8 ((head18 d s t []).s2), .int .u8 ((head18 d s t []).s3), .int .u8 ((head18 d s t []).d0), .int .u8 ((head18 d s t []).d1), .int .u8 ((head18 d s t []).d2), .int .u8 ((head18 d s t []).d3), .slice pZ18.oA ((head18 d s t []).ol.length) pZ18.oc, .slice A808 BL.length c809]) (by exact xo (hg812.load (P := Try.prog) 35 Try.underlying35 rfl (by kernel_rfl))) ?_
   simp only [lay]
   refine lz (ow_call (fun v w' => v = .int .i64 ((head18 d s t BL).check) ∧ Below W811.heap.size W811 w') (by exact xk Try.func35) (check_x (head18_rd hR.ok hE (A := A808) (c := c809) (own_byS own817))) ?_)
   rintro _ W818 ⟨rfl, hb819⟩
   have z820 := hb819.size
   simp only [lay]
   by_cases q821 : (head18 d s t BL).check = 0
   case pos =>
    refine lv (.bool false) (by exact neq_int_eq (by rfl) (by rfl) (by rfl) (by first|assumption|omega)) ?_
    simp only [lay]
    refine wn ?_
    refine cF9 ?_
    refine wp_skip ?_
    change Code.wp _ _ _ _ _
    refine wp_sr ?_
    have has822 := hg812.to hb819
    refine lv (.agg #[.int .u8 ((head18 d s t []).tos), .int .u16 ((head18 d s t []).id), .bool ((head18 d s t []).df), .bool ((head18 d s t []).mf), .int .i64 ((head18 d s t []).off), .int .u8 ((head18 d s t []).ttl), .int .u8 ((head18 d s t []).proto), .int .u8 ((head18 d s t []).s0), .int .u8 ((head18 d s t []).s1), .int .u8 ((head18 d s t []).s2), .int .u8 ((head18 d s t []).s3), .int .u8 ((head18 d s t []).d0), .int .u8 ((head18 d s t []).d1), .int .u8 ((head18 d s t []).d2), .int .u8 ((head18 d s t []).d3), .slice pZ18.oA ((head18 d s t []).ol.length) pZ18.oc, .slice A808 BL.length c809]) (by exact xo (has822.load (P := Try.prog) 35 Try.underlying35 rfl (by kernel_rfl))) ?_
    simp only [lay]
    have b829 := bt (bt (bt hb34 hb46) hb88) hb98
    have l831 := lq b829 ge103
    refine lz (ow_st 35 (.tmp 6) (.tmp 71) g22 #[.int .u8 ((head18 d s t []).tos), .int .u16 ((head18 d s t []).id), .bool ((head18 d s t []).df), .bool ((head18 d s t []).mf), .int .i64 ((head18 d s t []).off), .int .u8 ((head18 d s t []).ttl), .int .u8 ((head18 d s t []).proto), .int .u8 ((head18 d s t []).s0), .int .u8 ((head18 d s t []).s1), .int .u8 ((head18 d s t []).s2), .int .u8 ((head18 d s t []).s3), .int .u8 ((head18 d s t []).d0), .int .u8 ((head18 d s t []).d1), .int .u8 ((head18 d s t []).d2), .int .u8 ((head18 d s t []).d3), .slice pZ18.oA ((head18 d s t []).ol.length) pZ18.oc, .slice A808 BL.length c809] _ _ rfl (by rfl) (by rfl) (hg24.to (bt ((bt ((bt b829 hb105).trans (hb110.mono l831)) hb804).trans (hb814.mono l831)) hb819)) (by kernel_rfl) rfl (by kernel_rfl) ?_)
    intro W823 hg824 bs825 hb826
    have b838 := bt (bt hb46 hb88) hb98
    have l840 := lq b838 ge103
    have z847 := hb826.size
    simp only [lay]
    refine lz (ow_st1 36 (.tmp 7) (.const (.int .i64 0)) g29 0 (.int .i64 0) _ #[.int .i64 0] _ rfl (by rfl) (by rfl) rfl (by kernel_rfl) ((hg31.to (bt ((bt ((bt b838 hb105).trans (hb110.mono l840)) hb804).trans (hb814.mono l840)) hb819)).but6 bs825 (by omega)) rfl rfl (by kernel_rfl) ?_)
    intro W851 hg852 bs853 hb854
    have z855 := hb854.size
    have has857 := (has822.but6 bs825 (by omega)).but6 bs853 (by omega)
    simp only [lay]
    refine wn ?_
    refine wp_ret ?_
    try simp only [Exit.then]
    have hany : any18 d s t s' t' = (BL, 0) := by
     rw [any18_b (by assumption)]
     exact Prod.ext hBL (hBE.trans (by assumption))
    have e : pack18 d s t s' t' = (head18 d s t (BL), 0) := by
     unfold pack18
     rw [hany]
     dsimp only
     repeat (first|rw [if_pos (by first|assumption|omega)]|rw [if_neg (by first|assumption|omega|exact ne_true_of_eq_false (by assumption))])
    have h6 : Has _ _ (.cells ((head18 d s t (BL)).cells (pB4 A808 c809)) 35 (0, 0)) := (hg824.but6 bs853 (by omega))
    exact leave18_ok (res_cc Try.results9 rfl (h6.load (P := Try.prog) 35 Try.underlying35 rfl (by kernel_rfl)) rfl (load_errno hg852)) ⟨⟨_, by rw [e], by rw [e]; exact head18_own hR.ok hE ((((own817.to hb819).but6 bs825 (by omega)).but6 bs853 (by omega)).more b801.size)⟩, (((bt ((bt b801 hb804).trans (hb814.mono l800)) hb819).trans (hb826.mono (lq b41 ge25))).trans (hb854.mono (lq b42 ge32)))⟩
   refine lv (.bool true) (by exact neq_int_ne (by rfl) (by rfl) (by rfl) (by first|assumption|omega)) ?_
   simp only [lay]
   refine wn ?_
   refine cT9 ?_
   refine wp_region_lit ?_
   refine lv (.iface 36 (.int .i64 2)) (by kernel_rfl) ?_
   simp only [lay]
   refine lz (ow_raise _ _ rfl (by rfl) ?_)
   have hany : any18 d s t s' t' = (BL, 0) := by
    rw [any18_b (by assumption)]
    exact Prod.ext hBL (hBE.trans (by assumption))
   have e : pack18 d s t s' t' = (zero18, 2) := by
    unfold pack18
    rw [hany]
    dsimp only
    repeat (first|rw [if_pos (by first|assumption|omega)]|rw [if_neg (by first|assumption|omega|exact ne_true_of_eq_false (by assumption))])
   have b868 := bt (bt (bt hb34 hb46) hb88) hb98
   have l870 := lq b868 ge103
   have b877 := bt (bt hb46 hb88) hb98
   have l879 := lq b877 ge103
   refine leave18_fault (hg31.to (bt ((bt ((bt b877 hb105).trans (hb110.mono l879)) hb804).trans (hb814.mono l879)) hb819)) ?_
   intro W889 hE890 hb891 hk892
   exact ⟨_, res_cc Try.results9 rfl ((hk892 _ _ (by omega) (hg24.to (bt ((bt ((bt b868 hb105).trans (hb110.mono l870)) hb804).trans (hb814.mono l870)) hb819))).load (P := Try.prog) 35 Try.underlying35 rfl (by kernel_rfl)) rfl (load_errno hE890), ⟨pZ18, by rw [e]; rfl, by rw [e]; exact own4_z18 _ _⟩, (bt ((bt b801 hb804).trans (hb814.mono l800)) hb819).trans (hb891.mono (lq b42 ge32))⟩
  have b894 := bt (bt b85 hb88) hb98
  have b897 := (bt b894 hb105).trans (hb110.mono (lq b894 ge103))
  have rd898 := hR.to b897
  refine lz (ow_panic [{ v := .iface 36 (.int .i64 BE), recovered := false }] (fun w' => Below W107.heap.size W107 w') (by exact xk Try.func34) ((body18_any d p s t hE W107 rd898 hbl).mono fun e w' h => ⟨by rw [← hBE]; exact h.1.2 (by rw [hBE]; exact q796), h.2⟩) ?_)
  rintro W899 hb900
  have z901 := hb900.size
  have hany : any18 d s t s' t' = ([], BE) := by
   rw [any18_b (by assumption)]
   exact Prod.ext (bad18_nil d s t (by rw [hBE]; assumption)) hBE
  have e : pack18 d s t s' t' = (zero18, BE) := by
   unfold pack18
   rw [hany]
   dsimp only
   repeat (first|rw [if_pos (by first|assumption|omega)]|rw [if_neg (by first|assumption|omega|exact ne_true_of_eq_false (by assumption))])
  have b904 := bt (bt (bt hb34 hb46) hb88) hb98
  have b911 := bt (bt hb46 hb88) hb98
  refine leave18_fault (hg31.to (bt ((bt b911 hb105).trans (hb110.mono (lq b911 ge103))) hb900)) ?_
  intro W919 hE920 hb921 hk922
  exact ⟨_, res_cc Try.results9 rfl ((hk922 _ _ (by omega) (hg24.to (bt ((bt b904 hb105).trans (hb110.mono (lq b904 ge103))) hb900))).load (P := Try.prog) 35 Try.underlying35 rfl (by kernel_rfl)) rfl (load_errno hE920), ⟨pZ18, by rw [e]; rfl, by rw [e]; exact own4_z18 _ _⟩, (bt b897 hb900).trans (hb921.mono (lq b42 ge32))⟩
 refine lz (ow_panic [{ v := .iface 36 (.int .i64 d.check), recovered := false }] (fun w' => W45 = w') (by exact xk Try.func28) (must18_yes d.check q48 W45) ?_)
 rintro _ rfl
 have e : pack18 d s t s' t' = (zero18, d.check) := by
  unfold pack18
  repeat (first|rw [if_pos (by first|assumption|omega)]|rw [if_neg (by first|assumption|omega|exact ne_true_of_eq_false (by assumption))])
 refine leave18_fault (hg31.to hb46) ?_
 intro W928 hE929 hb930 hk931
 exact ⟨_, res_cc Try.results9 rfl ((hk931 _ _ (by omega) (hg24.to (bt hb34 hb46))).load (P := Try.prog) 35 Try.underlying35 rfl (by kernel_rfl)) rfl (load_errno hE929), ⟨pZ18, by rw [e]; rfl, by rw [e]; exact own4_z18 _ _⟩, (bt b43 hb46).trans (hb930.mono (lq b42 ge32))⟩
end Go.Proofs.Ytjnphelfloiadaa
