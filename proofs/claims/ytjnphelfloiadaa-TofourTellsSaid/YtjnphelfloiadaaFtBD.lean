/-
  Lemmas and walks for the row of TofourTells (part 30 of 37).
-/
import Derived.Test.YtjnphelfloiadaaFtAI
import Derived.Test.YtjnphelfloiadaaFtAZ
import Derived.Test.YtjnphelfloiadaaFtBC
set_option linter.unusedVariables false
set_option linter.unusedSimpArgs false
namespace Go.Proofs.Ytjnphelfloiadaa
open Go.RowKit Go.Shelf
attribute [local irreducible] wpList Code.wp Oper.wp wpOp wpAnyH

set_option maxRecDepth 100000 in
set_option maxHeartbeats 8000000 in
theorem msg18_any (m : D7) (A : Option Addr) (c : Nat) (s t : List Int) (hE : E4ok s t) (w : World) (hR : Rd7 w.heap.size w m A c) :
  Calls Try.prog 13 #[.agg (m.cells A c), .agg (e4c s t)] w fun e w' => ToldM17 (msg18 m s t) w.heap.size w' e ∧ Below w.heap.size w w' := by
 obtain ⟨K1, hK1⟩ : ∃ x, (kind18 m).1.1 = x := ⟨_, rfl⟩
 obtain ⟨K2, hK2⟩ : ∃ x, (kind18 m).1.2.1 = x := ⟨_, rfl⟩
 obtain ⟨K3, hK3⟩ : ∃ x, (kind18 m).1.2.2 = x := ⟨_, rfl⟩
 obtain ⟨IE, hIE⟩ : ∃ x, (inside18 m.bl s t).2 = x := ⟨_, rfl⟩
 obtain ⟨IL, hIL⟩ : ∃ x, (inside18 m.bl s t).1 = x := ⟨_, rfl⟩
 have y := hR.body
 go_enter_defers Try.func13, Try.ntmps13
 refine wp_sr ?_
 refine lz (ow_box 43 (.tmp 0) _ rfl rfl ?_)
 intro g1 W2 hg3 ge4 sz5 hb6
 have z7 := hb6.size
 simp only [lay]
 refine lz (ow_box 32 (.tmp 1) _ rfl rfl ?_)
 intro g8 W9 hg10 ge11 sz12 hb13
 have z14 := hb13.size
 simp only [lay]
 refine lz (oa #[.int .u8 0, .int .u8 0, .int .u32 0, .slice none 0 0] ?_)
 intro g15 W16 hg17 ge18 sz19 hb20
 have z21 := hb20.size
 simp only [lay]
 refine lz (ow_alloc (.int .i64 0) #[.int .i64 0] rfl (by kernel_rfl) rfl ?_)
 intro g22 W23 hg24 ge25 sz26 hb27
 have z28 := hb27.size
 simp only [lay]
 refine wn ?_
 refine wp_sr ?_
 refine lz (ow_defer (k := 27) rfl rfl ?_)
 simp only [lay]
 refine wn ?_
 refine wp_sr ?_
 have b29 := bt hb13 hb20
 have b30 := bt b29 hb27
 have has31 := hg3.to b30
 refine lv (.agg (m.cells A c)) (by exact xo (has31.load (P := Try.prog) 43 Try.underlying43 rfl (by kernel_rfl))) ?_
 simp only [lay]
 by_cases q32 : (kind18 m).2 = true
 case pos =>
  refine lz (ow_call (fun v w' => v = .agg #[.int .u8 K1, .int .u8 K2, .int .u32 K3, .slice none 0 0] ∧ Below W23.heap.size W23 w') (by exact xk Try.func45) ((kind18_any m hR.ok _ _ W23).mono fun e w' h => ⟨_, (by have := h.1.1 q32; rw [hK1, hK2, hK3] at this; exact this), rfl, h.2⟩) ?_)
  rintro _ W33 ⟨rfl, hb34⟩
  have z35 := hb34.size
  simp only [lay]
  refine lz (oa #[.int .u8 0, .int .u8 0, .int .u32 0, .slice none 0 0] ?_)
  intro g36 W37 hg38 ge39 sz40 hb41
  have z42 := hb41.size
  simp only [lay]
  refine lz (ow_st 43 (.tmp 6) (.tmp 10) g36 #[.int .u8 K1, .int .u8 K2, .int .u32 K3, .slice none 0 0] _ _ rfl (by exact rfl) (by exact rfl) hg38 (by kernel_rfl) rfl (by kernel_rfl) ?_)
  intro W43 hg44 bs45 hb46
  have z47 := hb46.size
  simp only [lay]
  refine wn ?_
  refine wp_seq ?_
  refine wp_sr ?_
  refine lv (.pointer (some ⟨g1, 3, none⟩)) (by exact xf 3 0 Try.underlying43) ?_
  simp only [lay]
  have b48 := bt b30 hb34
  have b49 := bt b48 hb41
  have l50 := lq b48 ge39
  have b51 := b49.trans (hb46.mono l50)
  have has52 := hg3.to b51
  refine lv (.slice A m.bl.length c) (by exact xc Try.underlying26 (has52.cell 3 rfl)) ?_
  simp only [lay]
  refine lv (.int .i64 (m.bl.length : Int)) (by exact xz Try.underlying26) ?_
  simp only [lay]
  by_cases q53 : (m.bl.length : Int) > 65527
  case pos =>
   refine lv (.bool true) (by exact ex_gtr (by exact rfl) (by exact rfl) (by exact rfl) (decide_eq_true (by first | assumption | omega | decide))) ?_
   simp only [lay]
   refine wn ?_
   refine cT9 ?_
   refine wp_region_lit ?_
   refine lv (.iface 36 (.int .i64 2)) (by kernel_rfl) ?_
   simp only [lay]
   refine lz (ow_raise _ _ rfl (by exact rfl) ?_)
   have e : msg18 m s t = (zero7, 2) := by
    unfold msg18
    rw [if_neg (by simp [*])]
    simp only [hK1, hK2, hK3, hIE, hIL]
    repeat (first | rw [if_pos (by first | assumption | omega)] | rw [if_neg (by first | assumption | omega)])
   have b54 := bt hb27 hb34
   have b55 := bt b54 hb41
   have l56 := lq b54 ge39
   have b57 := b55.trans (hb46.mono l56)
   have has58 := hg17.to b57
   have b59 := bt hb34 hb41
   have l60 := lq hb34 ge39
   have b61 := b59.trans (hb46.mono l60)
   have has62 := hg24.to b61
   have b63 := bt hb6 hb13
   have b64 := bt b63 hb20
   have b65 := bt b64 hb27
   have b66 := bt b65 hb34
   have b67 := bt b66 hb41
   have l68 := lq b66 ge39
   have b69 := b67.trans (hb46.mono l68)
   have l70 := lq b64 ge25
   refine leave18_fault has62 ?_
   intro W71 hE72 hb73 hk74
   exact ⟨_, res_cc Try.results13 rfl ((hk74 _ _ (by omega) has58).load (P := Try.prog) 43 Try.underlying43 rfl (by kernel_rfl)) rfl (load_errno hE72), ⟨none, 0, by rw [e]; rfl, by rw [e]; exact zero7_ok, by rw [e]; exact OwnB.nil _ _⟩, b69.trans (hb73.mono l70)⟩
  refine lv (.bool false) (by exact ex_gtr (by exact rfl) (by exact rfl) (by exact rfl) (decide_eq_false (by first | assumption | omega | decide))) ?_
  simp only [lay]
  refine wn ?_
  refine cF9 ?_
  refine wp_skip ?_
  change Code.wp _ _ _ _ _
  refine wp_seq ?_
  refine wp_sr ?_
  refine lv (.pointer (some ⟨g1, 0, none⟩)) (by exact xf 0 0 Try.underlying43) ?_
  simp only [lay]
  refine lv (.int .u8 m.ty) (by exact xc Try.underlying5 (has52.cell 0 rfl)) ?_
  simp only [lay]
  by_cases q75 : m.ty ≥ 128
  case pos =>
   refine lv (.bool true) (by exact ex_geq (by exact rfl) (by exact rfl) (by exact rfl) (decide_eq_true (by first | assumption | omega | decide))) ?_
   simp only [lay]
   refine wn ?_
   refine cT9 ?_
   refine wp_sr ?_
   refine lv (.pointer (some ⟨g1, 3, none⟩)) (by exact xf 3 0 Try.underlying43) ?_
   simp only [lay]
   refine lv (.slice A m.bl.length c) (by exact xc Try.underlying26 (has52.cell 3 rfl)) ?_
   simp only [lay]
   have b76 := bt hb6 hb13
   have b77 := bt b76 hb20
   have b78 := bt b77 hb27
   have b79 := bt b78 hb34
   have b80 := bt b79 hb41
   have l81 := lq b79 ge39
   have b82 := b80.trans (hb46.mono l81)
   have by83 := y.to b82
   refine lz (ow_call (fun v w' => OwnB w' W43.heap.size v m.bl ∧ Below W43.heap.size W43 w') (by exact xk Try.func46) (clone_n _ _ _ m.bl W43 by83 (by omega)) ?_)
   rintro v86 W84 ⟨hO87, hb85⟩
   have z88 := hb85.size
   obtain ⟨A89, c90, rfl, y91⟩ := hO87.by_
   simp only [lay]
   refine lv (.pointer (some ⟨g36, 3, none⟩)) (by exact xf 3 0 Try.underlying43) ?_
   simp only [lay]
   have has96 := hg44.to hb85
   refine lz (ow_st1 26 (.tmp 22) (.tmp 21) g36 3 (.slice A89 m.bl.length c90) _ #[.int .u8 K1, .int .u8 K2, .int .u32 K3, .slice A89 m.bl.length c90] _ rfl (by exact rfl) (by exact rfl) rfl (by kernel_rfl) has96 rfl rfl (by kernel_rfl) ?_)
   intro W92 hg93 bs94 hb95
   have z97 := hb95.size
   have own98 := hO87.but6 bs94 (by omega)
   simp only [lay]
   refine wn ?_
   refine wp_sr ?_
   refine lv (.agg #[.int .u8 K1, .int .u8 K2, .int .u32 K3, .slice A89 m.bl.length c90]) (by exact xo (hg93.load (P := Try.prog) 43 Try.underlying43 rfl (by kernel_rfl))) ?_
   simp only [lay]
   have b103 := bt hb27 hb34
   have b104 := bt b103 hb41
   have l105 := lq b103 ge39
   have b106 := b104.trans (hb46.mono l105)
   have b107 := bt b106 hb85
   have b108 := b107.trans (hb95.mono l105)
   have has109 := hg17.to b108
   refine lz (ow_st 43 (.tmp 4) (.tmp 23) g15 #[.int .u8 K1, .int .u8 K2, .int .u32 K3, .slice A89 m.bl.length c90] _ _ rfl (by exact rfl) (by exact rfl) has109 (by kernel_rfl) rfl (by kernel_rfl) ?_)
   intro W99 hg100 bs101 hb102
   have b110 := bt hb34 hb41
   have l111 := lq hb34 ge39
   have b112 := b110.trans (hb46.mono l111)
   have b113 := bt b112 hb85
   have b114 := b113.trans (hb95.mono l111)
   have has115 := hg24.to b114
   have z116 := hb102.size
   have has117 := has115.but6 bs101 (by omega)
   have own118 := own98.but6 bs101 (by omega)
   have has119 := hg93.but6 bs101 (by omega)
   simp only [lay]
   refine lz (ow_st1 36 (.tmp 5) (.const (.int .i64 0)) g22 0 (.int .i64 0) _ #[.int .i64 0] _ rfl (by exact rfl) (by exact rfl) rfl (by kernel_rfl) has117 rfl rfl (by kernel_rfl) ?_)
   intro W120 hg121 bs122 hb123
   have z124 := hb123.size
   have own125 := own118.but6 bs122 (by omega)
   have has126 := has119.but6 bs122 (by omega)
   have has127 := hg100.but6 bs122 (by omega)
   simp only [lay]
   refine wn ?_
   refine wp_ret ?_
   try simp only [Exit.then]
   have e : msg18 m s t = (⟨K1, K2, K3, m.bl⟩, 0) := by
    unfold msg18
    rw [if_neg (by simp [*])]
    simp only [hK1, hK2, hK3, hIE, hIL]
    repeat (first | rw [if_pos (by first | assumption | omega)] | rw [if_neg (by first | assumption | omega)])
   have hcs : (#[.int .u8 K1, .int .u8 K2, .int .u32 K3, .slice A89 m.bl.length c90] : Array Value) = (⟨K1, K2, K3, m.bl⟩ : D7).cells A89 c90 := by
    show _ = (#[.int .u8 K1, .int .u8 K2, .int .u32 K3, .slice A89 (m.bl).length c90] : Array Value)
    rw [← own_len own125]
   have h4 := has127
   rw [hcs] at h4
   have hO4 := own_norm (own125.more b82.size)
   have b128 := bt b82 hb85
   have b129 := b128.trans (hb95.mono l81)
   have l130 := lq b76 ge18
   have b131 := b129.trans (hb102.mono l130)
   have l132 := lq b77 ge25
   have b133 := b131.trans (hb123.mono l132)
   exact leave18_ok (res_cc Try.results13 rfl (h4.load (P := Try.prog) 43 Try.underlying43 rfl (by kernel_rfl)) rfl (load_errno hg121)) ⟨⟨A89, c90, by rw [e], by rw [e, ← hK1, ← hK2, ← hK3]; exact kind18_ok hR.ok _, by rw [e]; exact hO4⟩, b133⟩
  refine lv (.bool false) (by exact ex_geq (by exact rfl) (by exact rfl) (by exact rfl) (decide_eq_false (by first | assumption | omega | decide))) ?_
  simp only [lay]
  refine wn ?_
  refine cF9 ?_
  refine wp_skip ?_
  change Code.wp _ _ _ _ _
  refine wp_sr ?_
  refine lv (.pointer (some ⟨g1, 3, none⟩)) (by exact xf 3 0 Try.underlying43) ?_
  simp only [lay]
  refine lv (.slice A m.bl.length c) (by exact xc Try.underlying26 (has52.cell 3 rfl)) ?_
  simp only [lay]
  have b134 := bt hb20 hb27
  have b135 := bt b134 hb34
  have b136 := bt b135 hb41
  have l137 := lq b135 ge39
  have b138 := b136.trans (hb46.mono l137)
  have has139 := hg10.to b138
  refine lv (.agg (e4c s t)) (by exact xo (has139.load (P := Try.prog) 32 Try.underlying32 rfl (by kernel_rfl))) ?_
  simp only [lay]
  have b140 := bt hb6 hb13
  have b141 := bt b140 hb20
  have b142 := bt b141 hb27
  have b143 := bt b142 hb34
  have b144 := bt b143 hb41
  have l145 := lq b143 ge39
  have b146 := b144.trans (hb46.mono l145)
  have by147 := y.to b146
  refine lz (ow_call (fun v w' => (∃ u, v = .tuple #[u, .int .i64 IE] ∧ OwnB w' W43.heap.size u IL) ∧ Below W43.heap.size W43 w') (by exact xk Try.func16) ((inside18_any _ _ _ _ _ _ hE W43 by147).mono (by rintro e w' ⟨⟨v, rfl, ho⟩, hb⟩; exact ⟨_, rfl, ⟨v, by rw [hIE], by rw [← hIL]; exact ho⟩, hb⟩)) ?_)
  rintro _ W148 ⟨⟨u150, rfl, hO151⟩, hb149⟩
  have z152 := hb149.size
  obtain ⟨A153, c154, rfl, y155⟩ := hO151.by_
  simp only [lay]
  refine lv (.tuple #[.slice A153 IL.length c154, .int .i64 IE]) (by exact xm) ?_
  simp only [lay]
  refine lv (.slice A153 IL.length c154) (by exact xe) ?_
  simp only [lay]
  refine lv (.int .i64 IE) (by exact xe) ?_
  simp only [lay]
  refine lv (.slice A153 IL.length c154) (by exact xa) ?_
  simp only [lay]
  refine lv (.int .i64 IE) (by exact xa) ?_
  simp only [lay]
  refine wn ?_
  refine wp_sr ?_
  refine lv (.int .i64 IE) (by exact xm) ?_
  simp only [lay]
  by_cases q156 : IE = 0
  case pos =>
   rw [q156]
   refine lz (ow_same (.tuple #[]) (by exact xk Try.func28) (must18_no W148) ?_)
   simp only [lay]
   refine wn ?_
   refine wp_sr ?_
   refine lv (.slice A153 IL.length c154) (by exact xm) ?_
   simp only [lay]
   refine lv (.slice A153 IL.length c154) (by exact xm) ?_
   simp only [lay]
   refine lv (.int .i64 (IL.length : Int)) (by exact xz Try.underlying26) ?_
   simp only [lay]
   by_cases q157 : (IL.length : Int) ≤ 548
   case pos =>
    refine lv (.int .i64 (IL.length : Int)) (by exact ex_min (r := (IL.length : Int)) (by exact rfl) (by exact rfl) (by exact rfl) (by first | rw [if_pos (by omega)] | rw [if_neg (by omega)] | (split <;> omega))) ?_
    simp only [lay]
    have y159 := (own_byS hO151)
    have y158 := y159.to_ (P := Try.prog) 26 Try.underlying26 (by kernel_rfl) (k := IL.length) (by omega)
    have hO160 := hO151.take (k := IL.length) (by omega)
    refine lv (.slice A153 IL.length c154) (by exact ex_slice (by exact rfl) (by exact rfl) (y158.1 _)) ?_
    simp only [lay]
    refine lv (.pointer (some ⟨g36, 3, none⟩)) (by exact xf 3 0 Try.underlying43) ?_
    simp only [lay]
    have has165 := hg44.to hb149
    refine lz (ow_st1 26 (.tmp 38) (.tmp 37) g36 3 (.slice A153 IL.length c154) _ #[.int .u8 K1, .int .u8 K2, .int .u32 K3, .slice A153 IL.length c154] _ rfl (by exact rfl) (by exact rfl) rfl (by kernel_rfl) has165 rfl rfl (by kernel_rfl) ?_)
    intro W161 hg162 bs163 hb164
    have z166 := hb164.size
    have own167 := hO151.but6 bs163 (by omega)
    have own168 := hO160.but6 bs163 (by omega)
    simp only [lay]
    refine wn ?_
    refine wp_sr ?_
    refine lv (.agg #[.int .u8 K1, .int .u8 K2, .int .u32 K3, .slice A153 IL.length c154]) (by exact xo (hg162.load (P := Try.prog) 43 Try.underlying43 rfl (by kernel_rfl))) ?_
    simp only [lay]
    have b173 := bt hb27 hb34
    have b174 := bt b173 hb41
    have l175 := lq b173 ge39
    have b176 := b174.trans (hb46.mono l175)
    have b177 := bt b176 hb149
    have b178 := b177.trans (hb164.mono l175)
    have has179 := hg17.to b178
    refine lz (ow_st 43 (.tmp 4) (.tmp 39) g15 #[.int .u8 K1, .int .u8 K2, .int .u32 K3, .slice A153 IL.length c154] _ _ rfl (by exact rfl) (by exact rfl) has179 (by kernel_rfl) rfl (by kernel_rfl) ?_)
    intro W169 hg170 bs171 hb172
    have b180 := bt hb34 hb41
    have l181 := lq hb34 ge39
    have b182 := b180.trans (hb46.mono l181)
    have b183 := bt b182 hb149
    have b184 := b183.trans (hb164.mono l181)
    have has185 := hg24.to b184
    have z186 := hb172.size
    have has187 := has185.but6 bs171 (by omega)
    have own188 := own167.but6 bs171 (by omega)
    have own189 := own168.but6 bs171 (by omega)
    have has190 := hg162.but6 bs171 (by omega)
    simp only [lay]
    refine lz (ow_st1 36 (.tmp 5) (.const (.int .i64 0)) g22 0 (.int .i64 0) _ #[.int .i64 0] _ rfl (by exact rfl) (by exact rfl) rfl (by kernel_rfl) has187 rfl rfl (by kernel_rfl) ?_)
    intro W191 hg192 bs193 hb194
    have z195 := hb194.size
    have own196 := own188.but6 bs193 (by omega)
    have own197 := own189.but6 bs193 (by omega)
    have has198 := has190.but6 bs193 (by omega)
    have has199 := hg170.but6 bs193 (by omega)
    simp only [lay]
    refine wn ?_
    refine wp_ret ?_
    try simp only [Exit.then]
    have e : msg18 m s t = (⟨K1, K2, K3, IL.take IL.length⟩, 0) := by
     unfold msg18
     rw [if_neg (by simp [*])]
     simp only [hK1, hK2, hK3, hIE, hIL]
     repeat (first | rw [if_pos (by first | assumption | omega)] | rw [if_neg (by first | assumption | omega)])
     rw [List.take_of_length_le (show IL.length ≤ 548 from by omega), List.take_length]
    have hcs : (#[.int .u8 K1, .int .u8 K2, .int .u32 K3, .slice A153 IL.length c154] : Array Value) = (⟨K1, K2, K3, IL.take IL.length⟩ : D7).cells A153 c154 := by
     show _ = (#[.int .u8 K1, .int .u8 K2, .int .u32 K3, .slice A153 (IL.take IL.length).length c154] : Array Value)
     rw [← own_len own197]
    have h4 := has199
    rw [hcs] at h4
    have hO4 := own_norm (own197.more b146.size)
    have b200 := bt b146 hb149
    have b201 := b200.trans (hb164.mono l145)
    have l202 := lq b140 ge18
    have b203 := b201.trans (hb172.mono l202)
    have l204 := lq b141 ge25
    have b205 := b203.trans (hb194.mono l204)
    exact leave18_ok (res_cc Try.results13 rfl (h4.load (P := Try.prog) 43 Try.underlying43 rfl (by kernel_rfl)) rfl (load_errno hg192)) ⟨⟨A153, c154, by rw [e], by rw [e, ← hK1, ← hK2, ← hK3]; exact kind18_ok hR.ok _, by rw [e]; exact hO4⟩, b205⟩
   refine lv (.int .i64 548) (by exact ex_min (r := 548) (by exact rfl) (by exact rfl) (by exact rfl) (by first | rw [if_pos (by omega)] | rw [if_neg (by omega)] | (split <;> omega))) ?_
   simp only [lay]
   have y207 := (own_byS hO151)
   have y206 := y207.to_ (P := Try.prog) 26 Try.underlying26 (by kernel_rfl) (k := 548) (by omega)
   have hO208 := hO151.take (k := 548) (by omega)
   refine lv (.slice A153 548 c154) (by exact ex_slice (by exact rfl) (by exact rfl) (y206.1 _)) ?_
   simp only [lay]
   refine lv (.pointer (some ⟨g36, 3, none⟩)) (by exact xf 3 0 Try.underlying43) ?_
   simp only [lay]
   have has213 := hg44.to hb149
   refine lz (ow_st1 26 (.tmp 38) (.tmp 37) g36 3 (.slice A153 548 c154) _ #[.int .u8 K1, .int .u8 K2, .int .u32 K3, .slice A153 548 c154] _ rfl (by exact rfl) (by exact rfl) rfl (by kernel_rfl) has213 rfl rfl (by kernel_rfl) ?_)
   intro W209 hg210 bs211 hb212
   have z214 := hb212.size
   have own215 := hO151.but6 bs211 (by omega)
   have own216 := hO208.but6 bs211 (by omega)
   simp only [lay]
   refine wn ?_
   refine wp_sr ?_
   refine lv (.agg #[.int .u8 K1, .int .u8 K2, .int .u32 K3, .slice A153 548 c154]) (by exact xo (hg210.load (P := Try.prog) 43 Try.underlying43 rfl (by kernel_rfl))) ?_
   simp only [lay]
   have b221 := bt hb27 hb34
   have b222 := bt b221 hb41
   have l223 := lq b221 ge39
   have b224 := b222.trans (hb46.mono l223)
   have b225 := bt b224 hb149
   have b226 := b225.trans (hb212.mono l223)
   have has227 := hg17.to b226
   refine lz (ow_st 43 (.tmp 4) (.tmp 39) g15 #[.int .u8 K1, .int .u8 K2, .int .u32 K3, .slice A153 548 c154] _ _ rfl (by exact rfl) (by exact rfl) has227 (by kernel_rfl) rfl (by kernel_rfl) ?_)
   intro W217 hg218 bs219 hb220
   have b228 := bt hb34 hb41
   have l229 := lq hb34 ge39
   have b230 := b228.trans (hb46.mono l229)
   have b231 := bt b230 hb149
   have b232 := b231.trans (hb212.mono l229)
   have has233 := hg24.to b232
   have z234 := hb220.size
   have has235 := has233.but6 bs219 (by omega)
   have own236 := own215.but6 bs219 (by omega)
   have own237 := own216.but6 bs219 (by omega)
   have has238 := hg210.but6 bs219 (by omega)
   simp only [lay]
   refine lz (ow_st1 36 (.tmp 5) (.const (.int .i64 0)) g22 0 (.int .i64 0) _ #[.int .i64 0] _ rfl (by exact rfl) (by exact rfl) rfl (by kernel_rfl) has235 rfl rfl (by kernel_rfl) ?_)
   intro W239 hg240 bs241 hb242
   have z243 := hb242.size
   have own244 := own236.but6 bs241 (by omega)
   have own245 := own237.but6 bs241 (by omega)
   have has246 := has238.but6 bs241 (by omega)
   have has247 := hg218.but6 bs241 (by omega)
   simp only [lay]
   refine wn ?_
   refine wp_ret ?_
   try simp only [Exit.then]
   have e : msg18 m s t = (⟨K1, K2, K3, IL.take 548⟩, 0) := by
    unfold msg18
    rw [if_neg (by simp [*])]
    simp only [hK1, hK2, hK3, hIE, hIL]
    repeat (first | rw [if_pos (by first | assumption | omega)] | rw [if_neg (by first | assumption | omega)])
   have hcs : (#[.int .u8 K1, .int .u8 K2, .int .u32 K3, .slice A153 548 c154] : Array Value) = (⟨K1, K2, K3, IL.take 548⟩ : D7).cells A153 c154 := by
    show _ = (#[.int .u8 K1, .int .u8 K2, .int .u32 K3, .slice A153 (IL.take 548).length c154] : Array Value)
    rw [← own_len own245]
   have h4 := has247
   rw [hcs] at h4
   have hO4 := own_norm (own245.more b146.size)
   have b248 := bt b146 hb149
   have b249 := b248.trans (hb212.mono l145)
   have l250 := lq b140 ge18
   have b251 := b249.trans (hb220.mono l250)
   have l252 := lq b141 ge25
   have b253 := b251.trans (hb242.mono l252)
   exact leave18_ok (res_cc Try.results13 rfl (h4.load (P := Try.prog) 43 Try.underlying43 rfl (by kernel_rfl)) rfl (load_errno hg240)) ⟨⟨A153, c154, by rw [e], by rw [e, ← hK1, ← hK2, ← hK3]; exact kind18_ok hR.ok _, by rw [e]; exact hO4⟩, b253⟩
  refine lz (ow_panic [{ v := .iface 36 (.int .i64 IE), recovered := false }] (fun w' => W148 = w') (by exact xk Try.func28) (must18_yes IE q156 W148) ?_)
  rintro _ rfl
  have e : msg18 m s t = (zero7, IE) := by
   unfold msg18
   rw [if_neg (by simp [*])]
   simp only [hK1, hK2, hK3, hIE, hIL]
   repeat (first | rw [if_pos (by first | assumption | omega)] | rw [if_neg (by first | assumption | omega)])
  have b254 := bt hb27 hb34
  have b255 := bt b254 hb41
  have l256 := lq b254 ge39
  have b257 := b255.trans (hb46.mono l256)
  have b258 := bt b257 hb149
  have has259 := hg17.to b258
  have b260 := bt hb34 hb41
  have l261 := lq hb34 ge39
  have b262 := b260.trans (hb46.mono l261)
  have b263 := bt b262 hb149
  have has264 := hg24.to b263
  have b265 := bt b146 hb149
  have l266 := lq b141 ge25
  refine leave18_fault has264 ?_
  intro W267 hE268 hb269 hk270
  exact ⟨_, res_cc Try.results13 rfl ((hk270 _ _ (by omega) has259).load (P := Try.prog) 43 Try.underlying43 rfl (by kernel_rfl)) rfl (load_errno hE268), ⟨none, 0, by rw [e]; rfl, by rw [e]; exact zero7_ok, by rw [e]; exact OwnB.nil _ _⟩, b265.trans (hb269.mono l266)⟩
 refine lz (ow_panic [{ v := .iface 36 (.int .i64 175), recovered := false }] (fun w' => Below W23.heap.size W23 w') (by exact xk Try.func45) ((kind18_any m hR.ok _ _ W23).mono fun e w' h => ⟨h.1.2 (eq_false_of_ne_true q32), h.2⟩) ?_)
 rintro W271 hb272
 have z273 := hb272.size
 have e : msg18 m s t = (zero7, 175) := by
  unfold msg18
  rw [if_pos (by first | exact eq_false_of_ne_true (by assumption) | assumption)]
 have b274 := bt hb27 hb272
 have has275 := hg17.to b274
 have has276 := hg24.to hb272
 have b277 := bt hb6 hb13
 have b278 := bt b277 hb20
 have b279 := bt b278 hb27
 have b280 := bt b279 hb272
 have l281 := lq b278 ge25
 refine leave18_fault has276 ?_
 intro W282 hE283 hb284 hk285
 exact ⟨_, res_cc Try.results13 rfl ((hk285 _ _ (by omega) has275).load (P := Try.prog) 43 Try.underlying43 rfl (by kernel_rfl)) rfl (load_errno hE283), ⟨none, 0, by rw [e]; rfl, by rw [e]; exact zero7_ok, by rw [e]; exact OwnB.nil _ _⟩, b280.trans (hb284.mono l281)⟩
theorem own4_z18 (w : World) (base : Nat) : Own4 w base zero18 pZ18 := ⟨⟨by decide, by decide, by decide, by decide, by decide, fun x hx => by simp [zero18, D4.src] at hx; omega, fun x hx => by simp [zero18, D4.dst] at hx; omega⟩, OwnB.nil _ _, OwnB.nil _ _⟩
theorem head18_own {w : World} {base : Nat} {d : D6} (hd : d.ok) {s t bl : List Int} (hE : E4ok s t) {A : Option Addr} {c : Nat} (h : OwnB w base (.slice A bl.length c) bl) : Own4 w base (head18 d s t bl) (pB4 A c) := ⟨head18_ok hd hE, OwnB.nil _ _, h⟩
theorem head18_rd {w : World} {d : D6} (hd : d.ok) {s t bl : List Int} (hE : E4ok s t) {A : Option Addr} {n c : Nat} (h : By w.heap.size w A n c bl) : Rd4 w.heap.size w (head18 d s t bl) (pB4 A c) := by
 obtain rfl := h.len
 exact ⟨head18_ok hd hE, By.nil _ _ none (Nat.zero_le _), h⟩
theorem bad18_nil (d : D6) (s t : List Int) (h : ¬ (body18 d s t).2 = 0) : (body18 d s t).1 = [] := by
 revert h
 unfold body18
 repeat' split
 all_goals (intro h; first | rfl | exact absurd rfl h)
theorem any18_i {d : D6} {s t s' t' : List Int} (h : d.pro = 58) : any18 d s t s' t' = icmp18 d s' t' := by rw [any18, if_pos h]
theorem any18_b {d : D6} {s t s' t' : List Int} (h : ¬ d.pro = 58) : any18 d s t s' t' = body18 d s t := by rw [any18, if_neg h]
/-- a datagram of IPv4 and its error, in memory of the call's own -/
def ToldP18 (r : D4 × Int) (base : Nat) (w' : World) (e : Ending) : Prop := ∃ p, e = .returned (.tuple #[.agg (r.1.cells p), .int .i64 r.2]) ∧ Own4 w' base r.1 p

set_option maxRecDepth 100000 in
set_option maxHeartbeats 8000000 in
theorem pack18_any (d : D6) (p : W6) (s t s' t' : List Int) (hE : E4ok s t) (hE' : E4ok s' t') (w : World) (hR : Rd6 w.heap.size w d p) :
  Calls Try.prog 9 #[.agg (d.cells p), .agg (e4c s t), .agg (e4c s' t')] w fun e w' => ToldP18 (pack18 d s t s' t') w.heap.size w' e ∧ Below w.heap.size w w' := by
 obtain ⟨M, hM⟩ : ∃ x, parse7 d.bl (ps18 d) = x := ⟨_, rfl⟩
 obtain ⟨PE, hPE⟩ : ∃ x, perr7 d.bl (ps18 d) = x := ⟨_, rfl⟩
 obtain ⟨MR, hMR⟩ : ∃ x, (msg18 M s' t').1 = x := ⟨_, rfl⟩
 obtain ⟨ME, hME⟩ : ∃ x, (msg18 M s' t').2 = x := ⟨_, rfl⟩
 obtain ⟨BL, hBL⟩ : ∃ x, (body18 d s t).1 = x := ⟨_, rfl⟩
 obtain ⟨BE, hBE⟩ : ∃ x, (body18 d s t).2 = x := ⟨_, rfl⟩
 have yb6 := hR.body
 have hlb := yb6.len
 go_enter_defers Try.func9, Try.ntmps9
 refine wp_sr ?_
 refine lz (ow_box 28 (.tmp 0) _ rfl rfl ?_)
 intro g1 W2 hg3 ge4 sz5 hb6
 have z7 := hb6.size
 simp only [lay]
 refine lz (ow_box 32 (.tmp 1) _ rfl rfl ?_)
 intro g8 W9 hg10 ge11 sz12 hb13
 have z14 := hb13.size
 simp only [lay]
 refine lz (ow_box 32 (.tmp 2) _ rfl rfl ?_)
 intro g15 W16 hg17 ge18 sz19 hb20
 have z21 := hb20.size
 simp only [lay]
 refine lz (oa #[.int .u8 0, .int .u16 0, .bool false, .bool false, .int .i64 0, .int .u8 0, .int .u8 0, .int .u8 0, .int .u8 0, .int .u8 0, .int .u8 0, .int .u8 0, .int .u8 0, .int .u8 0, .int .u8 0, .slice none 0 0, .slice none 0 0] ?_)
 intro g22 W23 hg24 ge25 sz26 hb27
 have z28 := hb27.size
 simp only [lay]
 refine lz (ow_alloc (.int .i64 0) #[.int .i64 0] rfl (by kernel_rfl) rfl ?_)
 intro g29 W30 hg31 ge32 sz33 hb34
 have z35 := hb34.size
 simp only [lay]
 refine wn ?_
 refine wp_sr ?_
 refine lz (ow_defer (k := 27) rfl rfl ?_)
 simp only [lay]
 refine wn ?_
 refine wp_sr ?_
 have b36 := bt hb13 hb20
 have b37 := bt b36 hb27
 have b38 := bt b37 hb34
 have has39 := hg3.to b38
 refine lv (.agg (d.cells p)) (by exact xo (has39.load (P := Try.prog) 28 Try.underlying28 rfl (by kernel_rfl))) ?_
 simp only [lay]
 have b40 := bt hb6 hb13
 have b41 := bt b40 hb20
 have b42 := bt b41 hb27
 have b43 := bt b42 hb34
 have rd44 := hR.to b43
 refine lz (ow_call (fun v w' => v = .int .i64 d.check ∧ Below W30.heap.size W30 w') (by exact xk Try.func29) (check6_x rd44) ?_)
 rintro _ W45 ⟨rfl, hb46⟩
 have z47 := hb46.size
 simp only [lay]
 by_cases q48 : d.check = 0
 case pos =>
  obtain ⟨hokh, hof, hbl⟩ := check18 q48
  rw [q48]
  refine lz (ow_same (.tuple #[]) (by exact xk Try.func28) (must18_no W45) ?_)
  simp only [lay]
  refine wn ?_
  refine wp_sr ?_
  have b49 := bt b38 hb46
  have has50 := hg3.to b49
  refine lv (.agg (d.cells p)) (by exact xo (has50.load (P := Try.prog) 28 Try.underlying28 rfl (by kernel_rfl))) ?_
  simp only [lay]
  by_cases q51 : routed18 d.hs = true
  case pos =>
   have b54 := bt b43 hb46
   have rd55 := hR.to b54
   refine lz (ow_panic [{ v := .iface 36 (.int .i64 170), recovered := false }] (fun w' => Below W45.heap.size W45 w') (by exact xk Try.func30) ((side18_any d _ W45 rd55 hokh).mono fun e w' h => ⟨by rw [h.1.out, side18, if_pos q51]; rfl, h.2⟩) ?_)
   rintro W52 hb53
   have z56 := hb53.size
   have e : pack18 d s t s' t' = (zero18, 170) := by
    unfold pack18
    repeat (first | rw [if_pos (by first | assumption | omega | exact ne_true_of_eq_false (by assumption))] | rw [if_neg (by first | assumption | omega | exact ne_true_of_eq_false (by assumption))])
   have b57 := bt hb34 hb46
   have b58 := bt b57 hb53
   have has59 := hg24.to b58
   have b60 := bt hb46 hb53
   have has61 := hg31.to b60
   have b62 := bt b54 hb53
   have l63 := lq b42 ge32
   refine leave18_fault has61 ?_
   intro W64 hE65 hb66 hk67
   exact ⟨_, res_cc Try.results9 rfl ((hk67 _ _ (by omega) has59).load (P := Try.prog) 35 Try.underlying35 rfl (by kernel_rfl)) rfl (load_errno hE65), ⟨pZ18, by rw [e]; rfl, by rw [e]; exact own4_z18 _ _⟩, b62.trans (hb66.mono l63)⟩
  have hr0 := eq_false_of_ne_true q51
  by_cases q68 : wrong18 d.pro = true
  case pos =>
   have b71 := bt b43 hb46
   have rd72 := hR.to b71
   refine lz (ow_panic [{ v := .iface 36 (.int .i64 171), recovered := false }] (fun w' => Below W45.heap.size W45 w') (by exact xk Try.func30) ((side18_any d _ W45 rd72 hokh).mono fun e w' h => ⟨by rw [h.1.out, side18, if_neg q51, if_pos q68]; rfl, h.2⟩) ?_)
   rintro W69 hb70
   have z73 := hb70.size
   have e : pack18 d s t s' t' = (zero18, 171) := by
    unfold pack18
    repeat (first | rw [if_pos (by first | assumption | omega | exact ne_true_of_eq_false (by assumption))] | rw [if_neg (by first | assumption | omega | exact ne_true_of_eq_false (by assumption))])
   have b74 := bt hb34 hb46
   have b75 := bt b74 hb70
   have has76 := hg24.to b75
   have b77 := bt hb46 hb70
   have has78 := hg31.to b77
   have b79 := bt b71 hb70
   have l80 := lq b42 ge32
   refine leave18_fault has78 ?_
   intro W81 hE82 hb83 hk84
   exact ⟨_, res_cc Try.results9 rfl ((hk84 _ _ (by omega) has76).load (P := Try.prog) 35 Try.underlying35 rfl (by kernel_rfl)) rfl (load_errno hE82), ⟨pZ18, by rw [e]; rfl, by rw [e]; exact own4_z18 _ _⟩, b79.trans (hb83.mono l80)⟩
  have hw0 := eq_false_of_ne_true q68
  have b85 := bt b43 hb46
  have rd86 := hR.to b85
  refine lz (ow_call (fun v w' => v = .tuple #[] ∧ Below W45.heap.size W45 w') (by exact xk Try.func30) ((side18_any d _ W45 rd86 hokh).mono fun e w' h => ⟨_, by rw [h.1.out, side18, if_neg q51, if_neg q68], rfl, h.2⟩) ?_)
  rintro _ W87 ⟨rfl, hb88⟩
  have z89 := hb88.size
  simp only [lay]
  refine wn ?_
  refine wp_sr ?_
  have b90 := bt b49 hb88
  have has91 := hg3.to b90
  refine lv (.agg (d.cells p)) (by exact xo (has91.load (P := Try.prog) 28 Try.underlying28 rfl (by kernel_rfl))) ?_
  simp only [lay]
  have b92 := bt hb20 hb27
  have b93 := bt b92 hb34
  have b94 := bt b93 hb46
  have b95 := bt b94 hb88
  have has96 := hg10.to b95
  refine lv (.agg (e4c s t)) (by exact xo (has96.load (P := Try.prog) 32 Try.underlying32 rfl (by kernel_rfl))) ?_
  simp only [lay]
  refine lz (ow_call (fun v w' => v = .agg ((head18 d s t []).cells pZ18) ∧ Below W87.heap.size W87 w') (by exact xk Try.func31) ((header18_any d hR.ok _ s t W87).mono fun e w' h => ⟨_, h.1, rfl, h.2⟩) ?_)
  rintro _ W97 ⟨rfl, hb98⟩
  have z99 := hb98.size
  simp only [lay]
  refine lz (oa #[.int .u8 0, .int .u16 0, .bool false, .bool false, .int .i64 0, .int .u8 0, .int .u8 0, .int .u8 0, .int .u8 0, .int .u8 0, .int .u8 0, .int .u8 0, .int .u8 0, .int .u8 0, .int .u8 0, .slice none 0 0, .slice none 0 0] ?_)
  intro g100 W101 hg102 ge103 sz104 hb105
  have z106 := hb105.size
  simp only [lay]
  refine lz (ow_st 35 (.tmp 8) (.tmp 19) g100 ((head18 d s t []).cells pZ18) _ _ rfl (by exact rfl) (by exact rfl) hg102 (by kernel_rfl) rfl (by kernel_rfl) ?_)
  intro W107 hg108 bs109 hb110
  have z111 := hb110.size
  simp only [lay]
  refine wn ?_
  refine wp_seq ?_
  refine wp_sr ?_
  refine lv (.pointer (some ⟨g1, 40, none⟩)) (by exact xf 40 0 Try.underlying28) ?_
  simp only [lay]
  have b112 := bt b90 hb98
  have b113 := bt b112 hb105
  have l114 := lq b112 ge103
  have b115 := b113.trans (hb110.mono l114)
  have has116 := hg3.to b115
  refine lv (.int .u8 d.pro) (by exact xc Try.underlying5 (has116.cell 40 rfl)) ?_
  simp only [lay]
  by_cases q117 : d.pro = 58
  case pos =>
   refine lv (.bool true) (by exact yq) ?_
   simp only [lay]
   refine wn ?_
   refine cT9 ?_
   refine wp_seq ?_
   refine wp_sr ?_
   refine lv (.pointer (some ⟨g1, 36, none⟩)) (by exact xf 36 0 Try.underlying28) ?_
   simp only [lay]
   refine lv (.bool d.frag) (by exact xc Try.underlying4 (has116.cell 36 rfl)) ?_
   simp only [lay]
   refine lv (.bool d.frag) (by exact xm) ?_
   simp only [lay]
   by_cases q118 : d.frag = true
   case pos =>
    rw [q118]
    refine lv (.pointer (some ⟨g1, 39, none⟩)) (by exact xf 39 0 Try.underlying28) ?_
    simp only [lay]
    refine lv (.bool d.more) (by exact xc Try.underlying4 (has116.cell 39 rfl)) ?_
    simp only [lay]
    refine lv (.bool d.more) (by exact xm) ?_
    simp only [lay]
    by_cases q119 : d.more = true
    case pos =>
     rw [q119]
     refine lzn ?_
     simp only [lay]
     refine lzn ?_
     simp only [lay]
     refine lzn ?_
     simp only [lay]
     refine lv (.bool true) (by exact xp (b := true)) ?_
     simp only [lay]
     refine lv (.bool true) (by exact xp (b := true)) ?_
     simp only [lay]
     refine wn ?_
     refine cT9 ?_
     refine wp_region_lit ?_
     refine lv (.iface 36 (.int .i64 174)) (by kernel_rfl) ?_
     simp only [lay]
     refine lz (ow_raise _ _ rfl (by exact rfl) ?_)
     have qp : d.part = true := by unfold D6.part; simp [*]; try omega
     have hany : any18 d s t s' t' = ([], 174) := by
      rw [any18_i (by assumption)]
      unfold icmp18
      simp only [hM, hPE, hMR, hME]
      repeat (first | rw [if_pos (by first | assumption | omega | exact ne_true_of_eq_false (by assumption))] | rw [if_neg (by first | assumption | omega | exact ne_true_of_eq_false (by assumption))])
     have e : pack18 d s t s' t' = (zero18, 174) := by
      unfold pack18
      rw [hany]
      dsimp only
      repeat (first | rw [if_pos (by first | assumption | omega | exact ne_true_of_eq_false (by assumption))] | rw [if_neg (by first | assumption | omega | exact ne_true_of_eq_false (by assumption))])
     have b120 := bt hb34 hb46
     have b121 := bt b120 hb88
     have b122 := bt b121 hb98
     have b123 := bt b122 hb105
     have l124 := lq b122 ge103
     have b125 := b123.trans (hb110.mono l124)
     have has126 := hg24.to b125
     have b127 := bt hb46 hb88
     have b128 := bt b127 hb98
     have b129 := bt b128 hb105
     have l130 := lq b128 ge103
     have b131 := b129.trans (hb110.mono l130)
     have has132 := hg31.to b131
     have b133 := bt b85 hb88
     have b134 := bt b133 hb98
     have b135 := bt b134 hb105
     have l136 := lq b134 ge103
     have b137 := b135.trans (hb110.mono l136)
     have l138 := lq b42 ge32
     refine leave18_fault has132 ?_
     intro W139 hE140 hb141 hk142
     exact ⟨_, res_cc Try.results9 rfl ((hk142 _ _ (by omega) has126).load (P := Try.prog) 35 Try.underlying35 rfl (by kernel_rfl)) rfl (load_errno hE140), ⟨pZ18, by rw [e]; rfl, by rw [e]; exact own4_z18 _ _⟩, b137.trans (hb141.mono l138)⟩
    replace q119 := eq_false_of_ne_true q119
    rw [q119]
    refine lv (.pointer (some ⟨g1, 38, none⟩)) (by exact xf 38 0 Try.underlying28) ?_
    simp only [lay]
    refine lv (.int .i64 d.off) (by exact xc Try.underlying3 (has116.cell 38 rfl)) ?_
    simp only [lay]
    by_cases q143 : d.off > 0
    case pos =>
     refine lv (.bool true) (by exact ex_gtr (by exact rfl) (by exact rfl) (by exact rfl) (decide_eq_true (by first | assumption | omega | decide))) ?_
     simp only [lay]
     refine lv (.bool true) (by exact xp (b := false)) ?_
     simp only [lay]
     refine lv (.bool true) (by exact xp (b := true)) ?_
     simp only [lay]
     refine wn ?_
     refine cT9 ?_
     refine wp_region_lit ?_
     refine lv (.iface 36 (.int .i64 174)) (by kernel_rfl) ?_
     simp only [lay]
     refine lz (ow_raise _ _ rfl (by exact rfl) ?_)
     have qp : d.part = true := by unfold D6.part; simp [*]; try omega
     have hany : any18 d s t s' t' = ([], 174) := by
      rw [any18_i (by assumption)]
      unfold icmp18
      simp only [hM, hPE, hMR, hME]
      repeat (first | rw [if_pos (by first | assumption | omega | exact ne_true_of_eq_false (by assumption))] | rw [if_neg (by first | assumption | omega | exact ne_true_of_eq_false (by assumption))])
     have e : pack18 d s t s' t' = (zero18, 174) := by
      unfold pack18
      rw [hany]
      dsimp only
      repeat (first | rw [if_pos (by first | assumption | omega | exact ne_true_of_eq_false (by assumption))] | rw [if_neg (by first | assumption | omega | exact ne_true_of_eq_false (by assumption))])
     have b144 := bt hb34 hb46
     have b145 := bt b144 hb88
     have b146 := bt b145 hb98
     have b147 := bt b146 hb105
     have l148 := lq b146 ge103
     have b149 := b147.trans (hb110.mono l148)
     have has150 := hg24.to b149
     have b151 := bt hb46 hb88
     have b152 := bt b151 hb98
     have b153 := bt b152 hb105
     have l154 := lq b152 ge103
     have b155 := b153.trans (hb110.mono l154)
     have has156 := hg31.to b155
     have b157 := bt b85 hb88
     have b158 := bt b157 hb98
     have b159 := bt b158 hb105
     have l160 := lq b158 ge103
     have b161 := b159.trans (hb110.mono l160)
     have l162 := lq b42 ge32
     refine leave18_fault has156 ?_
     intro W163 hE164 hb165 hk166
     exact ⟨_, res_cc Try.results9 rfl ((hk166 _ _ (by omega) has150).load (P := Try.prog) 35 Try.underlying35 rfl (by kernel_rfl)) rfl (load_errno hE164), ⟨pZ18, by rw [e]; rfl, by rw [e]; exact own4_z18 _ _⟩, b161.trans (hb165.mono l162)⟩
    refine lv (.bool false) (by exact ex_gtr (by exact rfl) (by exact rfl) (by exact rfl) (decide_eq_false (by first | assumption | omega | decide))) ?_
    simp only [lay]
    refine lv (.bool false) (by exact xp (b := false)) ?_
    simp only [lay]
    refine lv (.bool false) (by exact xp (b := true)) ?_
    simp only [lay]
    refine wn ?_
    refine cF9 ?_
    refine wp_skip ?_
    change Code.wp _ _ _ _ _
    refine wp_sr ?_
    refine lv (.pointer (some ⟨g1, 3, none⟩)) (by exact xf 3 15 Try.underlying28) ?_
    simp only [lay]
    refine lv (.agg #[.int .u8 (d.src.getD 0 0), .int .u8 (d.src.getD 1 0), .int .u8 (d.src.getD 2 0), .int .u8 (d.src.getD 3 0), .int .u8 (d.src.getD 4 0), .int .u8 (d.src.getD 5 0), .int .u8 (d.src.getD 6 0), .int .u8 (d.src.getD 7 0), .int .u8 (d.src.getD 8 0), .int .u8 (d.src.getD 9 0), .int .u8 (d.src.getD 10 0), .int .u8 (d.src.getD 11 0), .int .u8 (d.src.getD 12 0), .int .u8 (d.src.getD 13 0), .int .u8 (d.src.getD 14 0), .int .u8 (d.src.getD 15 0)]) (by exact ex_loadAt (by exact rfl) (by exact rfl) (has116.loadIn (P := Try.prog) 3 [.int .u8 (d.src.getD 0 0), .int .u8 (d.src.getD 1 0), .int .u8 (d.src.getD 2 0), .int .u8 (d.src.getD 3 0), .int .u8 (d.src.getD 4 0), .int .u8 (d.src.getD 5 0), .int .u8 (d.src.getD 6 0), .int .u8 (d.src.getD 7 0), .int .u8 (d.src.getD 8 0), .int .u8 (d.src.getD 9 0), .int .u8 (d.src.getD 10 0), .int .u8 (d.src.getD 11 0), .int .u8 (d.src.getD 12 0), .int .u8 (d.src.getD 13 0), .int .u8 (d.src.getD 14 0), .int .u8 (d.src.getD 15 0)] (by kernel_rfl) 24 Try.underlying24 rfl (by kernel_rfl))) ?_
    simp only [lay]
    refine lv (.pointer (some ⟨g1, 19, none⟩)) (by exact xf 19 15 Try.underlying28) ?_
    simp only [lay]
    refine lv (.agg #[.int .u8 (d.dst.getD 0 0), .int .u8 (d.dst.getD 1 0), .int .u8 (d.dst.getD 2 0), .int .u8 (d.dst.getD 3 0), .int .u8 (d.dst.getD 4 0), .int .u8 (d.dst.getD 5 0), .int .u8 (d.dst.getD 6 0), .int .u8 (d.dst.getD 7 0), .int .u8 (d.dst.getD 8 0), .int .u8 (d.dst.getD 9 0), .int .u8 (d.dst.getD 10 0), .int .u8 (d.dst.getD 11 0), .int .u8 (d.dst.getD 12 0), .int .u8 (d.dst.getD 13 0), .int .u8 (d.dst.getD 14 0), .int .u8 (d.dst.getD 15 0)]) (by exact ex_loadAt (by exact rfl) (by exact rfl) (has116.loadIn (P := Try.prog) 19 [.int .u8 (d.dst.getD 0 0), .int .u8 (d.dst.getD 1 0), .int .u8 (d.dst.getD 2 0), .int .u8 (d.dst.getD 3 0), .int .u8 (d.dst.getD 4 0), .int .u8 (d.dst.getD 5 0), .int .u8 (d.dst.getD 6 0), .int .u8 (d.dst.getD 7 0), .int .u8 (d.dst.getD 8 0), .int .u8 (d.dst.getD 9 0), .int .u8 (d.dst.getD 10 0), .int .u8 (d.dst.getD 11 0), .int .u8 (d.dst.getD 12 0), .int .u8 (d.dst.getD 13 0), .int .u8 (d.dst.getD 14 0), .int .u8 (d.dst.getD 15 0)] (by kernel_rfl) 24 Try.underlying24 rfl (by kernel_rfl))) ?_
    simp only [lay]
    refine lv (.pointer (some ⟨g1, 41, none⟩)) (by exact xf 41 0 Try.underlying28) ?_
    simp only [lay]
    refine lv (.slice p.bA d.bl.length p.bc) (by exact xc Try.underlying26 (has116.cell 41 rfl)) ?_
    simp only [lay]
    have b167 := bt b85 hb88
    have b168 := bt b167 hb98
    have b169 := bt b168 hb105
    have l170 := lq b168 ge103
    have b171 := b169.trans (hb110.mono l170)
    have by172 := yb6.to b171
    refine lz (ow_call (fun v w' => (∃ A' c', v = .tuple #[.agg (M.cells A' c'), .int .i64 PE] ∧ M.ok ∧ OwnB w' W107.heap.size (.slice A' M.bl.length c') M.bl) ∧ Below W107.heap.size W107 w') (by exact xk Try.func32) (by have := iparse6_x hR.ok.srcL hR.ok.dstL hR.ok.src hR.ok.dst by172; rw [show pse6 d.src d.dst d.bl.length 58 = ps18 d from rfl, hM, hPE] at this; exact this) ?_)
    rintro _ W173 ⟨⟨A175, c176, rfl, hk177, hO178⟩, hb174⟩
    have z179 := hb174.size
    simp only [lay]
    refine lv (.tuple #[.agg (M.cells A175 c176), .int .i64 PE]) (by exact xm) ?_
    simp only [lay]
    refine lv (.agg (M.cells A175 c176)) (by exact xe) ?_
    simp only [lay]
    refine lv (.int .i64 PE) (by exact xe) ?_
    simp only [lay]
    refine lz (oa #[.int .u8 0, .int .u8 0, .int .u32 0, .slice none 0 0] ?_)
    intro g180 W181 hg182 ge183 sz184 hb185
    have z186 := hb185.size
    simp only [lay]
    refine lz (ow_st 43 (.tmp 9) (.tmp 43) g180 (M.cells A175 c176) _ _ rfl (by exact rfl) (by exact rfl) hg182 (by kernel_rfl) rfl (by kernel_rfl) ?_)
    intro W187 hg188 bs189 hb190
    have z191 := hb190.size
    simp only [lay]
    refine lv (.int .i64 PE) (by exact xa) ?_
    simp only [lay]
    refine wn ?_
    refine wp_sr ?_
    refine lv (.int .i64 PE) (by exact xm) ?_
    simp only [lay]
    by_cases q192 : PE = 0
    case pos =>
     rw [q192]
     refine lz (ow_same (.tuple #[]) (by exact xk Try.func28) (must18_no W187) ?_)
     simp only [lay]
     refine wn ?_
     refine wp_sr ?_
     refine lv (.agg (M.cells A175 c176)) (by exact xo (hg188.load (P := Try.prog) 43 Try.underlying43 rfl (by kernel_rfl))) ?_
     simp only [lay]
     have b193 := bt hb27 hb34
     have b194 := bt b193 hb46
     have b195 := bt b194 hb88
     have b196 := bt b195 hb98
     have b197 := bt b196 hb105
     have l198 := lq b196 ge103
     have b199 := b197.trans (hb110.mono l198)
     have b200 := bt b199 hb174
     have b201 := bt b200 hb185
     have l202 := lq b200 ge183
     have b203 := b201.trans (hb190.mono l202)
     have has204 := hg17.to b203
     refine lv (.agg (e4c s' t')) (by exact xo (has204.load (P := Try.prog) 32 Try.underlying32 rfl (by kernel_rfl))) ?_
     simp only [lay]
     have l205 : W173.heap.size ≤ g180 := Nat.le_of_eq ge183.symm
     have b206 := hb185.trans (hb190.mono l205)
     have own207 := hO178.to b206
     refine lz (ow_call (fun v w' => (∃ A' c', v = .tuple #[.agg (MR.cells A' c'), .int .i64 ME] ∧ MR.ok ∧ OwnB w' W187.heap.size (.slice A' MR.bl.length c') MR.bl) ∧ Below W187.heap.size W187 w') (by exact xk Try.func13) ((msg18_any M _ _ s' t' hE' W187 ⟨hk177, (own_byS own207)⟩).mono (by rintro e w' ⟨⟨A, c, rfl, hk, ho⟩, hb⟩; rw [hMR] at hk ho; exact ⟨_, rfl, ⟨A, c, by rw [hMR, hME], hk, ho⟩, hb⟩)) ?_)
     rintro _ W208 ⟨⟨A210, c211, rfl, hk212, hO213⟩, hb209⟩
     have z214 := hb209.size
     simp only [lay]
     refine lv (.tuple #[.agg (MR.cells A210 c211), .int .i64 ME]) (by exact xm) ?_
     simp only [lay]
     refine lv (.agg (MR.cells A210 c211)) (by exact xe) ?_
     simp only [lay]
     refine lv (.int .i64 ME) (by exact xe) ?_
     simp only [lay]
     refine lz (oa #[.int .u8 0, .int .u8 0, .int .u32 0, .slice none 0 0] ?_)
     intro g215 W216 hg217 ge218 sz219 hb220
     have z221 := hb220.size
     simp only [lay]
     refine lz (ow_st 43 (.tmp 11) (.tmp 51) g215 (MR.cells A210 c211) _ _ rfl (by exact rfl) (by exact rfl) hg217 (by kernel_rfl) rfl (by kernel_rfl) ?_)
     intro W222 hg223 bs224 hb225
     have z226 := hb225.size
     simp only [lay]
     refine lv (.int .i64 ME) (by exact xa) ?_
     simp only [lay]
     refine wn ?_
     refine wp_sr ?_
     refine lv (.int .i64 ME) (by exact xm) ?_
     simp only [lay]
     by_cases q227 : ME = 0
     case pos =>
      have herr : MR.err = 0 := by rw [D7.err, if_neg (by have := msg18_len (m := M) (s := s') (t := t'); rw [hMR] at this; omega)]
      rw [q227]
      refine lz (ow_same (.tuple #[]) (by exact xk Try.func28) (must18_no W222) ?_)
      simp only [lay]
      refine wn ?_
      refine wp_sr ?_
      refine lv (.agg (MR.cells A210 c211)) (by exact xo (hg223.load (P := Try.prog) 43 Try.underlying43 rfl (by kernel_rfl))) ?_
      simp only [lay]
      have l228 : W208.heap.size ≤ g215 := Nat.le_of_eq ge218.symm
      have b229 := hb220.trans (hb225.mono l228)
      have own230 := hO213.to b229
      refine lz (ow_call (fun v w' => (∃ u, v = .tuple #[u, .int .i64 0] ∧ OwnB w' W222.heap.size u (MR.write [])) ∧ Below W222.heap.size W222 w') (by exact xk Try.func33) (by have := iwrite4_x (w := W222) ⟨hk212, (own_byS own230)⟩; rw [herr] at this; exact this) ?_)
      rintro _ W231 ⟨⟨u233, rfl, hO234⟩, hb232⟩
      have z235 := hb232.size
      obtain ⟨A236, c237, rfl, y238⟩ := hO234.by_
      simp only [lay]
      refine lv (.tuple #[.slice A236 ((MR.write []).length) c237, .int .i64 0]) (by exact xm) ?_
      simp only [lay]
      refine lv (.slice A236 ((MR.write []).length) c237) (by exact xe) ?_
      simp only [lay]
      refine lv (.int .i64 0) (by exact xe) ?_
      simp only [lay]
      refine lv (.pointer (some ⟨g100, 16, none⟩)) (by exact xf 16 0 Try.underlying35) ?_
      simp only [lay]
      have b243 := bt hb174 hb185
      have l244 := lq hb174 ge183
      have b245 := b243.trans (hb190.mono l244)
      have b246 := bt b245 hb209
      have b247 := bt b246 hb220
      have l248 := lq b246 ge218
      have b249 := b247.trans (hb225.mono l248)
      have b250 := bt b249 hb232
      have has251 := hg108.to b250
      refine lz (ow_st1 26 (.tmp 60) (.tmp 58) g100 16 (.slice A236 ((MR.write []).length) c237) _ #[.int .u8 ((head18 d s t []).tos), .int .u16 ((head18 d s t []).id), .bool ((head18 d s t []).df), .bool ((head18 d s t []).mf), .int .i64 ((head18 d s t []).off), .int .u8 ((head18 d s t []).ttl), .int .u8 ((head18 d s t []).proto), .int .u8 ((head18 d s t []).s0), .int .u8 ((head18 d s t []).s1), .int .u8 ((head18 d s t []).s2), .int .u8 ((head18 d s t []).s3), .int .u8 ((head18 d s t []).d0), .int .u8 ((head18 d s t []).d1), .int .u8 ((head18 d s t []).d2), .int .u8 ((head18 d s t []).d3), .slice pZ18.oA ((head18 d s t []).ol.length) pZ18.oc, .slice A236 ((MR.write []).length) c237] _ rfl (by exact rfl) (by exact rfl) rfl (by kernel_rfl) has251 rfl rfl (by kernel_rfl) ?_)
      intro W239 hg240 bs241 hb242
      have b252 := bt b206 hb209
      have b253 := bt b252 hb220
      have l254 := lq b252 ge218
      have b255 := b253.trans (hb225.mono l254)
      have b256 := bt b255 hb232
      have own257 := hO178.to b256
      have b258 := bt hb209 hb220
      have l259 := lq hb209 ge218
      have b260 := b258.trans (hb225.mono l259)
      have b261 := bt b260 hb232
      have has262 := hg188.to b261
      have b263 := bt b229 hb232
      have own264 := hO213.to b263
      have has265 := hg223.to hb232
      have z266 := hb242.size
      have own267 := own257.but6 bs241 (by omega)
      have has268 := has262.but6 bs241 (by omega)
      have own269 := own264.but6 bs241 (by omega)
      have has270 := has265.but6 bs241 (by omega)
      have own271 := hO234.but6 bs241 (by omega)
      simp only [lay]
      refine lv (.int .i64 0) (by exact xa) ?_
      simp only [lay]
      refine wn ?_
      refine wp_region_lit ?_
      refine lv (.int .i64 0) (by exact xm) ?_
      simp only [lay]
      refine lz (ow_same (.tuple #[]) (by exact xk Try.func28) (must18_no W239) ?_)
      simp only [lay]
      refine wn ?_
      refine wp_seq ?_
      refine wp_sr ?_
      refine lv (.agg #[.int .u8 ((head18 d s t []).tos), .int .u16 ((head18 d s t []).id), .bool ((head18 d s t []).df), .bool ((head18 d s t []).mf), .int .i64 ((head18 d s t []).off), .int .u8 ((head18 d s t []).ttl), .int .u8 ((head18 d s t []).proto), .int .u8 ((head18 d s t []).s0), .int .u8 ((head18 d s t []).s1), .int .u8 ((head18 d s t []).s2), .int .u8 ((head18 d s t []).s3), .int .u8 ((head18 d s t []).d0), .int .u8 ((head18 d s t []).d1), .int .u8 ((head18 d s t []).d2), .int .u8 ((head18 d s t []).d3), .slice pZ18.oA ((head18 d s t []).ol.length) pZ18.oc, .slice A236 ((MR.write []).length) c237]) (by exact xo (hg240.load (P := Try.prog) 35 Try.underlying35 rfl (by kernel_rfl))) ?_
      simp only [lay]
      refine lz (ow_call (fun v w' => v = .int .i64 ((head18 d s t (MR.write [])).check) ∧ Below W239.heap.size W239 w') (by exact xk Try.func35) (check_x (head18_rd hR.ok hE (A := A236) (c := c237) (own_byS own271))) ?_)
      rintro _ W272 ⟨rfl, hb273⟩
      have z274 := hb273.size
      simp only [lay]
      by_cases q275 : (head18 d s t (MR.write [])).check = 0
      case pos =>
       refine lv (.bool false) (by exact neq_int_eq (by exact rfl) (by exact rfl) (by exact rfl) (by first | assumption | omega)) ?_
       simp only [lay]
       refine wn ?_
       refine cF9 ?_
       refine wp_skip ?_
       change Code.wp _ _ _ _ _
       refine wp_sr ?_
       have has276 := hg240.to hb273
       refine lv (.agg #[.int .u8 ((head18 d s t []).tos), .int .u16 ((head18 d s t []).id), .bool ((head18 d s t []).df), .bool ((head18 d s t []).mf), .int .i64 ((head18 d s t []).off), .int .u8 ((head18 d s t []).ttl), .int .u8 ((head18 d s t []).proto), .int .u8 ((head18 d s t []).s0), .int .u8 ((head18 d s t []).s1), .int .u8 ((head18 d s t []).s2), .int .u8 ((head18 d s t []).s3), .int .u8 ((head18 d s t []).d0), .int .u8 ((head18 d s t []).d1), .int .u8 ((head18 d s t []).d2), .int .u8 ((head18 d s t []).d3), .slice pZ18.oA ((head18 d s t []).ol.length) pZ18.oc, .slice A236 ((MR.write []).length) c237]) (by exact xo (has276.load (P := Try.prog) 35 Try.underlying35 rfl (by kernel_rfl))) ?_
       simp only [lay]
       have b281 := bt hb34 hb46
       have b282 := bt b281 hb88
       have b283 := bt b282 hb98
       have b284 := bt b283 hb105
       have l285 := lq b283 ge103
       have b286 := b284.trans (hb110.mono l285)
       have b287 := bt b286 hb174
       have b288 := bt b287 hb185
       have l289 := lq b287 ge183
       have b290 := b288.trans (hb190.mono l289)
       have b291 := bt b290 hb209
       have b292 := bt b291 hb220
       have l293 := lq b291 ge218
       have b294 := b292.trans (hb225.mono l293)
       have b295 := bt b294 hb232
       have b296 := b295.trans (hb242.mono l285)
       have b297 := bt b296 hb273
       have has298 := hg24.to b297
       refine lz (ow_st 35 (.tmp 6) (.tmp 71) g22 #[.int .u8 ((head18 d s t []).tos), .int .u16 ((head18 d s t []).id), .bool ((head18 d s t []).df), .bool ((head18 d s t []).mf), .int .i64 ((head18 d s t []).off), .int .u8 ((head18 d s t []).ttl), .int .u8 ((head18 d s t []).proto), .int .u8 ((head18 d s t []).s0), .int .u8 ((head18 d s t []).s1), .int .u8 ((head18 d s t []).s2), .int .u8 ((head18 d s t []).s3), .int .u8 ((head18 d s t []).d0), .int .u8 ((head18 d s t []).d1), .int .u8 ((head18 d s t []).d2), .int .u8 ((head18 d s t []).d3), .slice pZ18.oA ((head18 d s t []).ol.length) pZ18.oc, .slice A236 ((MR.write []).length) c237] _ _ rfl (by exact rfl) (by exact rfl) has298 (by kernel_rfl) rfl (by kernel_rfl) ?_)
       intro W277 hg278 bs279 hb280
       have b299 := bt hb46 hb88
       have b300 := bt b299 hb98
       have b301 := bt b300 hb105
       have l302 := lq b300 ge103
       have b303 := b301.trans (hb110.mono l302)
       have b304 := bt b303 hb174
       have b305 := bt b304 hb185
       have l306 := lq b304 ge183
       have b307 := b305.trans (hb190.mono l306)
       have b308 := bt b307 hb209
       have b309 := bt b308 hb220
       have l310 := lq b308 ge218
       have b311 := b309.trans (hb225.mono l310)
       have b312 := bt b311 hb232
       have b313 := b312.trans (hb242.mono l302)
       have b314 := bt b313 hb273
       have has315 := hg31.to b314
       have own316 := own267.to hb273
       have has317 := has268.to hb273
       have own318 := own269.to hb273
       have has319 := has270.to hb273
       have own320 := own271.to hb273
       have z321 := hb280.size
       have has322 := has315.but6 bs279 (by omega)
       have own323 := own316.but6 bs279 (by omega)
       have has324 := has317.but6 bs279 (by omega)
       have own325 := own318.but6 bs279 (by omega)
       have has326 := has319.but6 bs279 (by omega)
       have own327 := own320.but6 bs279 (by omega)
       have has328 := has276.but6 bs279 (by omega)
       simp only [lay]
       refine lz (ow_st1 36 (.tmp 7) (.const (.int .i64 0)) g29 0 (.int .i64 0) _ #[.int .i64 0] _ rfl (by exact rfl) (by exact rfl) rfl (by kernel_rfl) has322 rfl rfl (by kernel_rfl) ?_)
       intro W329 hg330 bs331 hb332
       have z333 := hb332.size
       have own334 := own323.but6 bs331 (by omega)
       have has335 := has324.but6 bs331 (by omega)
       have own336 := own325.but6 bs331 (by omega)
       have has337 := has326.but6 bs331 (by omega)
       have own338 := own327.but6 bs331 (by omega)
       have has339 := has328.but6 bs331 (by omega)
       have has340 := hg278.but6 bs331 (by omega)
       simp only [lay]
       refine wn ?_
       refine wp_ret ?_
       try simp only [Exit.then]
       have b341 := bt b171 hb174
       have b342 := bt b341 hb185
       have l343 := lq b341 ge183
       have b344 := b342.trans (hb190.mono l343)
       have b345 := bt b344 hb209
       have b346 := bt b345 hb220
       have l347 := lq b345 ge218
       have b348 := b346.trans (hb225.mono l347)
       have qp : d.part = false := by unfold D6.part; simp [*]; try omega
       have hany : any18 d s t s' t' = (MR.write [], 0) := by
        rw [any18_i (by assumption)]
        unfold icmp18
        simp only [hM, hPE, hMR, hME]
        repeat (first | rw [if_pos (by first | assumption | omega | exact ne_true_of_eq_false (by assumption))] | rw [if_neg (by first | assumption | omega | exact ne_true_of_eq_false (by assumption))])
       have e : pack18 d s t s' t' = (head18 d s t (MR.write []), 0) := by
        unfold pack18
        rw [hany]
        dsimp only
        repeat (first | rw [if_pos (by first | assumption | omega | exact ne_true_of_eq_false (by assumption))] | rw [if_neg (by first | assumption | omega | exact ne_true_of_eq_false (by assumption))])
       have h6 : Has _ _ (.cells ((head18 d s t (MR.write [])).cells (pB4 A236 c237)) 35 (0, 0)) := has340
       have b349 := bt b348 hb232
       have b350 := b349.trans (hb242.mono l170)
       have b351 := bt b350 hb273
       have l352 := lq b41 ge25
       have b353 := b351.trans (hb280.mono l352)
       have l354 := lq b42 ge32
       have b355 := b353.trans (hb332.mono l354)
       exact leave18_ok (res_cc Try.results9 rfl (h6.load (P := Try.prog) 35 Try.underlying35 rfl (by kernel_rfl)) rfl (load_errno hg330)) ⟨⟨_, by rw [e], by rw [e]; exact head18_own hR.ok hE (own338.more b348.size)⟩, b355⟩
      refine lv (.bool true) (by exact neq_int_ne (by exact rfl) (by exact rfl) (by exact rfl) (by first | assumption | omega)) ?_
      simp only [lay]
      refine wn ?_
      refine cT9 ?_
      refine wp_region_lit ?_
      refine lv (.iface 36 (.int .i64 2)) (by kernel_rfl) ?_
      simp only [lay]
      refine lz (ow_raise _ _ rfl (by exact rfl) ?_)
      have qp : d.part = false := by unfold D6.part; simp [*]; try omega
      have hany : any18 d s t s' t' = (MR.write [], 0) := by
       rw [any18_i (by assumption)]
       unfold icmp18
       simp only [hM, hPE, hMR, hME]
       repeat (first | rw [if_pos (by first | assumption | omega | exact ne_true_of_eq_false (by assumption))] | rw [if_neg (by first | assumption | omega | exact ne_true_of_eq_false (by assumption))])
      have e : pack18 d s t s' t' = (zero18, 2) := by
       unfold pack18
       rw [hany]
       dsimp only
       repeat (first | rw [if_pos (by first | assumption | omega | exact ne_true_of_eq_false (by assumption))] | rw [if_neg (by first | assumption | omega | exact ne_true_of_eq_false (by assumption))])
      have b356 := bt hb34 hb46
      have b357 := bt b356 hb88
      have b358 := bt b357 hb98
      have b359 := bt b358 hb105
      have l360 := lq b358 ge103
      have b361 := b359.trans (hb110.mono l360)
      have b362 := bt b361 hb174
      have b363 := bt b362 hb185
      have l364 := lq b362 ge183
      have b365 := b363.trans (hb190.mono l364)
      have b366 := bt b365 hb209
      have b367 := bt b366 hb220
      have l368 := lq b366 ge218
      have b369 := b367.trans (hb225.mono l368)
      have b370 := bt b369 hb232
      have b371 := b370.trans (hb242.mono l360)
      have b372 := bt b371 hb273
      have has373 := hg24.to b372
      have b374 := bt hb46 hb88
      have b375 := bt b374 hb98
      have b376 := bt b375 hb105
      have l377 := lq b375 ge103
      have b378 := b376.trans (hb110.mono l377)
      have b379 := bt b378 hb174
      have b380 := bt b379 hb185
      have l381 := lq b379 ge183
      have b382 := b380.trans (hb190.mono l381)
      have b383 := bt b382 hb209
      have b384 := bt b383 hb220
      have l385 := lq b383 ge218
      have b386 := b384.trans (hb225.mono l385)
      have b387 := bt b386 hb232
      have b388 := b387.trans (hb242.mono l377)
      have b389 := bt b388 hb273
      have has390 := hg31.to b389
      have b391 := bt b171 hb174
      have b392 := bt b391 hb185
      have l393 := lq b391 ge183
      have b394 := b392.trans (hb190.mono l393)
      have b395 := bt b394 hb209
      have b396 := bt b395 hb220
      have l397 := lq b395 ge218
      have b398 := b396.trans (hb225.mono l397)
      have b399 := bt b398 hb232
      have b400 := b399.trans (hb242.mono l170)
      have b401 := bt b400 hb273
      have l402 := lq b42 ge32
      refine leave18_fault has390 ?_
      intro W403 hE404 hb405 hk406
      exact ⟨_, res_cc Try.results9 rfl ((hk406 _ _ (by omega) has373).load (P := Try.prog) 35 Try.underlying35 rfl (by kernel_rfl)) rfl (load_errno hE404), ⟨pZ18, by rw [e]; rfl, by rw [e]; exact own4_z18 _ _⟩, b401.trans (hb405.mono l402)⟩
     refine lz (ow_panic [{ v := .iface 36 (.int .i64 ME), recovered := false }] (fun w' => W222 = w') (by exact xk Try.func28) (must18_yes ME q227 W222) ?_)
     rintro _ rfl
     have qp : d.part = false := by unfold D6.part; simp [*]; try omega
     have hany : any18 d s t s' t' = ([], ME) := by
      rw [any18_i (by assumption)]
      unfold icmp18
      simp only [hM, hPE, hMR, hME]
      repeat (first | rw [if_pos (by first | assumption | omega | exact ne_true_of_eq_false (by assumption))] | rw [if_neg (by first | assumption | omega | exact ne_true_of_eq_false (by assumption))])
     have e : pack18 d s t s' t' = (zero18, ME) := by
      unfold pack18
      rw [hany]
      dsimp only
      repeat (first | rw [if_pos (by first | assumption | omega | exact ne_true_of_eq_false (by assumption))] | rw [if_neg (by first | assumption | omega | exact ne_true_of_eq_false (by assumption))])
     have b407 := bt hb34 hb46
     have b408 := bt b407 hb88
     have b409 := bt b408 hb98
     have b410 := bt b409 hb105
     have l411 := lq b409 ge103
     have b412 := b410.trans (hb110.mono l411)
     have b413 := bt b412 hb174
     have b414 := bt b413 hb185
     have l415 := lq b413 ge183
     have b416 := b414.trans (hb190.mono l415)
     have b417 := bt b416 hb209
     have b418 := bt b417 hb220
     have l419 := lq b417 ge218
     have b420 := b418.trans (hb225.mono l419)
     have has421 := hg24.to b420
     have b422 := bt hb46 hb88
     have b423 := bt b422 hb98
     have b424 := bt b423 hb105
     have l425 := lq b423 ge103
     have b426 := b424.trans (hb110.mono l425)
     have b427 := bt b426 hb174
     have b428 := bt b427 hb185
     have l429 := lq b427 ge183
     have b430 := b428.trans (hb190.mono l429)
     have b431 := bt b430 hb209
     have b432 := bt b431 hb220
     have l433 := lq b431 ge218
     have b434 := b432.trans (hb225.mono l433)
     have has435 := hg31.to b434
     have b436 := bt b171 hb174
     have b437 := bt b436 hb185
     have l438 := lq b436 ge183
     have b439 := b437.trans (hb190.mono l438)
     have b440 := bt b439 hb209
     have b441 := bt b440 hb220
     have l442 := lq b440 ge218
     have b443 := b441.trans (hb225.mono l442)
     have l444 := lq b42 ge32
     refine leave18_fault has435 ?_
     intro W445 hE446 hb447 hk448
     exact ⟨_, res_cc Try.results9 rfl ((hk448 _ _ (by omega) has421).load (P := Try.prog) 35 Try.underlying35 rfl (by kernel_rfl)) rfl (load_errno hE446), ⟨pZ18, by rw [e]; rfl, by rw [e]; exact own4_z18 _ _⟩, b443.trans (hb447.mono l444)⟩
    refine lz (ow_panic [{ v := .iface 36 (.int .i64 PE), recovered := false }] (fun w' => W187 = w') (by exact xk Try.func28) (must18_yes PE q192 W187) ?_)
    rintro _ rfl
    have qp : d.part = false := by unfold D6.part; simp [*]; try omega
    have hany : any18 d s t s' t' = ([], PE) := by
     rw [any18_i (by assumption)]
     unfold icmp18
     simp only [hM, hPE, hMR, hME]
     repeat (first | rw [if_pos (by first | assumption | omega | exact ne_true_of_eq_false (by assumption))] | rw [if_neg (by first | assumption | omega | exact ne_true_of_eq_false (by assumption))])
    have e : pack18 d s t s' t' = (zero18, PE) := by
     unfold pack18
     rw [hany]
     dsimp only
     repeat (first | rw [if_pos (by first | assumption | omega | exact ne_true_of_eq_false (by assumption))] | rw [if_neg (by first | assumption | omega | exact ne_true_of_eq_false (by assumption))])
    have b449 := bt hb34 hb46
    have b450 := bt b449 hb88
    have b451 := bt b450 hb98
    have b452 := bt b451 hb105
    have l453 := lq b451 ge103
    have b454 := b452.trans (hb110.mono l453)
    have b455 := bt b454 hb174
    have b456 := bt b455 hb185
    have l457 := lq b455 ge183
    have b458 := b456.trans (hb190.mono l457)
    have has459 := hg24.to b458
    have b460 := bt hb46 hb88
    have b461 := bt b460 hb98
    have b462 := bt b461 hb105
    have l463 := lq b461 ge103
    have b464 := b462.trans (hb110.mono l463)
    have b465 := bt b464 hb174
    have b466 := bt b465 hb185
    have l467 := lq b465 ge183
    have b468 := b466.trans (hb190.mono l467)
    have has469 := hg31.to b468
    have b470 := bt b171 hb174
    have b471 := bt b470 hb185
    have l472 := lq b470 ge183
    have b473 := b471.trans (hb190.mono l472)
    have l474 := lq b42 ge32
    refine leave18_fault has469 ?_
    intro W475 hE476 hb477 hk478
    exact ⟨_, res_cc Try.results9 rfl ((hk478 _ _ (by omega) has459).load (P := Try.prog) 35 Try.underlying35 rfl (by kernel_rfl)) rfl (load_errno hE476), ⟨pZ18, by rw [e]; rfl, by rw [e]; exact own4_z18 _ _⟩, b473.trans (hb477.mono l474)⟩
   replace q118 := eq_false_of_ne_true q118
   rw [q118]
   refine lzn ?_
   simp only [lay]
   refine lzn ?_
   simp only [lay]
   refine lzn ?_
   simp only [lay]
   refine lzn ?_
   simp only [lay]
   refine lzn ?_
   simp only [lay]
   refine lzn ?_
   simp only [lay]
   refine lzn ?_
   simp only [lay]
   refine lv (.bool false) (by exact xp (b := false)) ?_
   simp only [lay]
   refine wn ?_
   refine cF9 ?_
   refine wp_skip ?_
   change Code.wp _ _ _ _ _
   refine wp_sr ?_
   refine lv (.pointer (some ⟨g1, 3, none⟩)) (by exact xf 3 15 Try.underlying28) ?_
   simp only [lay]
   refine lv (.agg #[.int .u8 (d.src.getD 0 0), .int .u8 (d.src.getD 1 0), .int .u8 (d.src.getD 2 0), .int .u8 (d.src.getD 3 0), .int .u8 (d.src.getD 4 0), .int .u8 (d.src.getD 5 0), .int .u8 (d.src.getD 6 0), .int .u8 (d.src.getD 7 0), .int .u8 (d.src.getD 8 0), .int .u8 (d.src.getD 9 0), .int .u8 (d.src.getD 10 0), .int .u8 (d.src.getD 11 0), .int .u8 (d.src.getD 12 0), .int .u8 (d.src.getD 13 0), .int .u8 (d.src.getD 14 0), .int .u8 (d.src.getD 15 0)]) (by exact ex_loadAt (by exact rfl) (by exact rfl) (has116.loadIn (P := Try.prog) 3 [.int .u8 (d.src.getD 0 0), .int .u8 (d.src.getD 1 0), .int .u8 (d.src.getD 2 0), .int .u8 (d.src.getD 3 0), .int .u8 (d.src.getD 4 0), .int .u8 (d.src.getD 5 0), .int .u8 (d.src.getD 6 0), .int .u8 (d.src.getD 7 0), .int .u8 (d.src.getD 8 0), .int .u8 (d.src.getD 9 0), .int .u8 (d.src.getD 10 0), .int .u8 (d.src.getD 11 0), .int .u8 (d.src.getD 12 0), .int .u8 (d.src.getD 13 0), .int .u8 (d.src.getD 14 0), .int .u8 (d.src.getD 15 0)] (by kernel_rfl) 24 Try.underlying24 rfl (by kernel_rfl))) ?_
   simp only [lay]
   refine lv (.pointer (some ⟨g1, 19, none⟩)) (by exact xf 19 15 Try.underlying28) ?_
   simp only [lay]
   refine lv (.agg #[.int .u8 (d.dst.getD 0 0), .int .u8 (d.dst.getD 1 0), .int .u8 (d.dst.getD 2 0), .int .u8 (d.dst.getD 3 0), .int .u8 (d.dst.getD 4 0), .int .u8 (d.dst.getD 5 0), .int .u8 (d.dst.getD 6 0), .int .u8 (d.dst.getD 7 0), .int .u8 (d.dst.getD 8 0), .int .u8 (d.dst.getD 9 0), .int .u8 (d.dst.getD 10 0), .int .u8 (d.dst.getD 11 0), .int .u8 (d.dst.getD 12 0), .int .u8 (d.dst.getD 13 0), .int .u8 (d.dst.getD 14 0), .int .u8 (d.dst.getD 15 0)]) (by exact ex_loadAt (by exact rfl) (by exact rfl) (has116.loadIn (P := Try.prog) 19 [.int .u8 (d.dst.getD 0 0), .int .u8 (d.dst.getD 1 0), .int .u8 (d.dst.getD 2 0), .int .u8 (d.dst.getD 3 0), .int .u8 (d.dst.getD 4 0), .int .u8 (d.dst.getD 5 0), .int .u8 (d.dst.getD 6 0), .int .u8 (d.dst.getD 7 0), .int .u8 (d.dst.getD 8 0), .int .u8 (d.dst.getD 9 0), .int .u8 (d.dst.getD 10 0), .int .u8 (d.dst.getD 11 0), .int .u8 (d.dst.getD 12 0), .int .u8 (d.dst.getD 13 0), .int .u8 (d.dst.getD 14 0), .int .u8 (d.dst.getD 15 0)] (by kernel_rfl) 24 Try.underlying24 rfl (by kernel_rfl))) ?_
   simp only [lay]
   refine lv (.pointer (some ⟨g1, 41, none⟩)) (by exact xf 41 0 Try.underlying28) ?_
   simp only [lay]
   refine lv (.slice p.bA d.bl.length p.bc) (by exact xc Try.underlying26 (has116.cell 41 rfl)) ?_
   simp only [lay]
   have b479 := bt b85 hb88
   have b480 := bt b479 hb98
   have b481 := bt b480 hb105
   have l482 := lq b480 ge103
   have b483 := b481.trans (hb110.mono l482)
   have by484 := yb6.to b483
   refine lz (ow_call (fun v w' => (∃ A' c', v = .tuple #[.agg (M.cells A' c'), .int .i64 PE] ∧ M.ok ∧ OwnB w' W107.heap.size (.slice A' M.bl.length c') M.bl) ∧ Below W107.heap.size W107 w') (by exact xk Try.func32) (by have := iparse6_x hR.ok.srcL hR.ok.dstL hR.ok.src hR.ok.dst by484; rw [show pse6 d.src d.dst d.bl.length 58 = ps18 d from rfl, hM, hPE] at this; exact this) ?_)
   rintro _ W485 ⟨⟨A487, c488, rfl, hk489, hO490⟩, hb486⟩
   have z491 := hb486.size
   simp only [lay]
   refine lv (.tuple #[.agg (M.cells A487 c488), .int .i64 PE]) (by exact xm) ?_
   simp only [lay]
   refine lv (.agg (M.cells A487 c488)) (by exact xe) ?_
   simp only [lay]
   refine lv (.int .i64 PE) (by exact xe) ?_
   simp only [lay]
   refine lz (oa #[.int .u8 0, .int .u8 0, .int .u32 0, .slice none 0 0] ?_)
   intro g492 W493 hg494 ge495 sz496 hb497
   have z498 := hb497.size
   simp only [lay]
   refine lz (ow_st 43 (.tmp 9) (.tmp 43) g492 (M.cells A487 c488) _ _ rfl (by exact rfl) (by exact rfl) hg494 (by kernel_rfl) rfl (by kernel_rfl) ?_)
   intro W499 hg500 bs501 hb502
   have z503 := hb502.size
   simp only [lay]
   refine lv (.int .i64 PE) (by exact xa) ?_
   simp only [lay]
   refine wn ?_
   refine wp_sr ?_
   refine lv (.int .i64 PE) (by exact xm) ?_
   simp only [lay]
   by_cases q504 : PE = 0
   case pos =>
    rw [q504]
    refine lz (ow_same (.tuple #[]) (by exact xk Try.func28) (must18_no W499) ?_)
    simp only [lay]
    refine wn ?_
    refine wp_sr ?_
    refine lv (.agg (M.cells A487 c488)) (by exact xo (hg500.load (P := Try.prog) 43 Try.underlying43 rfl (by kernel_rfl))) ?_
    simp only [lay]
    have b505 := bt hb27 hb34
    have b506 := bt b505 hb46
    have b507 := bt b506 hb88
    have b508 := bt b507 hb98
    have b509 := bt b508 hb105
    have l510 := lq b508 ge103
    have b511 := b509.trans (hb110.mono l510)
    have b512 := bt b511 hb486
    have b513 := bt b512 hb497
    have l514 := lq b512 ge495
    have b515 := b513.trans (hb502.mono l514)
    have has516 := hg17.to b515
    refine lv (.agg (e4c s' t')) (by exact xo (has516.load (P := Try.prog) 32 Try.underlying32 rfl (by kernel_rfl))) ?_
    simp only [lay]
    have l517 : W485.heap.size ≤ g492 := Nat.le_of_eq ge495.symm
    have b518 := hb497.trans (hb502.mono l517)
    have own519 := hO490.to b518
    refine lz (ow_call (fun v w' => (∃ A' c', v = .tuple #[.agg (MR.cells A' c'), .int .i64 ME] ∧ MR.ok ∧ OwnB w' W499.heap.size (.slice A' MR.bl.length c') MR.bl) ∧ Below W499.heap.size W499 w') (by exact xk Try.func13) ((msg18_any M _ _ s' t' hE' W499 ⟨hk489, (own_byS own519)⟩).mono (by rintro e w' ⟨⟨A, c, rfl, hk, ho⟩, hb⟩; rw [hMR] at hk ho; exact ⟨_, rfl, ⟨A, c, by rw [hMR, hME], hk, ho⟩, hb⟩)) ?_)
    rintro _ W520 ⟨⟨A522, c523, rfl, hk524, hO525⟩, hb521⟩
    have z526 := hb521.size
    simp only [lay]
    refine lv (.tuple #[.agg (MR.cells A522 c523), .int .i64 ME]) (by exact xm) ?_
    simp only [lay]
    refine lv (.agg (MR.cells A522 c523)) (by exact xe) ?_
    simp only [lay]
    refine lv (.int .i64 ME) (by exact xe) ?_
    simp only [lay]
    refine lz (oa #[.int .u8 0, .int .u8 0, .int .u32 0, .slice none 0 0] ?_)
    intro g527 W528 hg529 ge530 sz531 hb532
    have z533 := hb532.size
    simp only [lay]
    refine lz (ow_st 43 (.tmp 11) (.tmp 51) g527 (MR.cells A522 c523) _ _ rfl (by exact rfl) (by exact rfl) hg529 (by kernel_rfl) rfl (by kernel_rfl) ?_)
    intro W534 hg535 bs536 hb537
    have z538 := hb537.size
    simp only [lay]
    refine lv (.int .i64 ME) (by exact xa) ?_
    simp only [lay]
    refine wn ?_
    refine wp_sr ?_
    refine lv (.int .i64 ME) (by exact xm) ?_
    simp only [lay]
    by_cases q539 : ME = 0
    case pos =>
     have herr : MR.err = 0 := by rw [D7.err, if_neg (by have := msg18_len (m := M) (s := s') (t := t'); rw [hMR] at this; omega)]
     rw [q539]
     refine lz (ow_same (.tuple #[]) (by exact xk Try.func28) (must18_no W534) ?_)
     simp only [lay]
     refine wn ?_
     refine wp_sr ?_
     refine lv (.agg (MR.cells A522 c523)) (by exact xo (hg535.load (P := Try.prog) 43 Try.underlying43 rfl (by kernel_rfl))) ?_
     simp only [lay]
     have l540 : W520.heap.size ≤ g527 := Nat.le_of_eq ge530.symm
     have b541 := hb532.trans (hb537.mono l540)
     have own542 := hO525.to b541
     refine lz (ow_call (fun v w' => (∃ u, v = .tuple #[u, .int .i64 0] ∧ OwnB w' W534.heap.size u (MR.write [])) ∧ Below W534.heap.size W534 w') (by exact xk Try.func33) (by have := iwrite4_x (w := W534) ⟨hk524, (own_byS own542)⟩; rw [herr] at this; exact this) ?_)
     rintro _ W543 ⟨⟨u545, rfl, hO546⟩, hb544⟩
     have z547 := hb544.size
     obtain ⟨A548, c549, rfl, y550⟩ := hO546.by_
     simp only [lay]
     refine lv (.tuple #[.slice A548 ((MR.write []).length) c549, .int .i64 0]) (by exact xm) ?_
     simp only [lay]
     refine lv (.slice A548 ((MR.write []).length) c549) (by exact xe) ?_
     simp only [lay]
     refine lv (.int .i64 0) (by exact xe) ?_
     simp only [lay]
     refine lv (.pointer (some ⟨g100, 16, none⟩)) (by exact xf 16 0 Try.underlying35) ?_
     simp only [lay]
     have b555 := bt hb486 hb497
     have l556 := lq hb486 ge495
     have b557 := b555.trans (hb502.mono l556)
     have b558 := bt b557 hb521
     have b559 := bt b558 hb532
     have l560 := lq b558 ge530
     have b561 := b559.trans (hb537.mono l560)
     have b562 := bt b561 hb544
     have has563 := hg108.to b562
     refine lz (ow_st1 26 (.tmp 60) (.tmp 58) g100 16 (.slice A548 ((MR.write []).length) c549) _ #[.int .u8 ((head18 d s t []).tos), .int .u16 ((head18 d s t []).id), .bool ((head18 d s t []).df), .bool ((head18 d s t []).mf), .int .i64 ((head18 d s t []).off), .int .u8 ((head18 d s t []).ttl), .int .u8 ((head18 d s t []).proto), .int .u8 ((head18 d s t []).s0), .int .u8 ((head18 d s t []).s1), .int .u8 ((head18 d s t []).s2), .int .u8 ((head18 d s t []).s3), .int .u8 ((head18 d s t []).d0), .int .u8 ((head18 d s t []).d1), .int .u8 ((head18 d s t []).d2), .int .u8 ((head18 d s t []).d3), .slice pZ18.oA ((head18 d s t []).ol.length) pZ18.oc, .slice A548 ((MR.write []).length) c549] _ rfl (by exact rfl) (by exact rfl) rfl (by kernel_rfl) has563 rfl rfl (by kernel_rfl) ?_)
     intro W551 hg552 bs553 hb554
     have b564 := bt b518 hb521
     have b565 := bt b564 hb532
     have l566 := lq b564 ge530
     have b567 := b565.trans (hb537.mono l566)
     have b568 := bt b567 hb544
     have own569 := hO490.to b568
     have b570 := bt hb521 hb532
     have l571 := lq hb521 ge530
     have b572 := b570.trans (hb537.mono l571)
     have b573 := bt b572 hb544
     have has574 := hg500.to b573
     have b575 := bt b541 hb544
     have own576 := hO525.to b575
     have has577 := hg535.to hb544
     have z578 := hb554.size
     have own579 := own569.but6 bs553 (by omega)
     have has580 := has574.but6 bs553 (by omega)
     have own581 := own576.but6 bs553 (by omega)
     have has582 := has577.but6 bs553 (by omega)
     have own583 := hO546.but6 bs553 (by omega)
     simp only [lay]
     refine lv (.int .i64 0) (by exact xa) ?_
     simp only [lay]
     refine wn ?_
     refine wp_region_lit ?_
     refine lv (.int .i64 0) (by exact xm) ?_
     simp only [lay]
     refine lz (ow_same (.tuple #[]) (by exact xk Try.func28) (must18_no W551) ?_)
     simp only [lay]
     refine wn ?_
     refine wp_seq ?_
     refine wp_sr ?_
     refine lv (.agg #[.int .u8 ((head18 d s t []).tos), .int .u16 ((head18 d s t []).id), .bool ((head18 d s t []).df), .bool ((head18 d s t []).mf), .int .i64 ((head18 d s t []).off), .int .u8 ((head18 d s t []).ttl), .int .u8 ((head18 d s t []).proto), .int .u8 ((head18 d s t []).s0), .int .u8 ((head18 d s t []).s1), .int .u8 ((head18 d s t []).s2), .int .u8 ((head18 d s t []).s3), .int .u8 ((head18 d s t []).d0), .int .u8 ((head18 d s t []).d1), .int .u8 ((head18 d s t []).d2), .int .u8 ((head18 d s t []).d3), .slice pZ18.oA ((head18 d s t []).ol.length) pZ18.oc, .slice A548 ((MR.write []).length) c549]) (by exact xo (hg552.load (P := Try.prog) 35 Try.underlying35 rfl (by kernel_rfl))) ?_
     simp only [lay]
     refine lz (ow_call (fun v w' => v = .int .i64 ((head18 d s t (MR.write [])).check) ∧ Below W551.heap.size W551 w') (by exact xk Try.func35) (check_x (head18_rd hR.ok hE (A := A548) (c := c549) (own_byS own583))) ?_)
     rintro _ W584 ⟨rfl, hb585⟩
     have z586 := hb585.size
     simp only [lay]
     by_cases q587 : (head18 d s t (MR.write [])).check = 0
     case pos =>
      refine lv (.bool false) (by exact neq_int_eq (by exact rfl) (by exact rfl) (by exact rfl) (by first | assumption | omega)) ?_
      simp only [lay]
      refine wn ?_
      refine cF9 ?_
      refine wp_skip ?_
      change Code.wp _ _ _ _ _
      refine wp_sr ?_
      have has588 := hg552.to hb585
      refine lv (.agg #[.int .u8 ((head18 d s t []).tos), .int .u16 ((head18 d s t []).id), .bool ((head18 d s t []).df), .bool ((head18 d s t []).mf), .int .i64 ((head18 d s t []).off), .int .u8 ((head18 d s t []).ttl), .int .u8 ((head18 d s t []).proto), .int .u8 ((head18 d s t []).s0), .int .u8 ((head18 d s t []).s1), .int .u8 ((head18 d s t []).s2), .int .u8 ((head18 d s t []).s3), .int .u8 ((head18 d s t []).d0), .int .u8 ((head18 d s t []).d1), .int .u8 ((head18 d s t []).d2), .int .u8 ((head18 d s t []).d3), .slice pZ18.oA ((head18 d s t []).ol.length) pZ18.oc, .slice A548 ((MR.write []).length) c549]) (by exact xo (has588.load (P := Try.prog) 35 Try.underlying35 rfl (by kernel_rfl))) ?_
      simp only [lay]
      have b593 := bt hb34 hb46
      have b594 := bt b593 hb88
      have b595 := bt b594 hb98
      have b596 := bt b595 hb105
      have l597 := lq b595 ge103
      have b598 := b596.trans (hb110.mono l597)
      have b599 := bt b598 hb486
      have b600 := bt b599 hb497
      have l601 := lq b599 ge495
      have b602 := b600.trans (hb502.mono l601)
      have b603 := bt b602 hb521
      have b604 := bt b603 hb532
      have l605 := lq b603 ge530
      have b606 := b604.trans (hb537.mono l605)
      have b607 := bt b606 hb544
      have b608 := b607.trans (hb554.mono l597)
      have b609 := bt b608 hb585
      have has610 := hg24.to b609
      refine lz (ow_st 35 (.tmp 6) (.tmp 71) g22 #[.int .u8 ((head18 d s t []).tos), .int .u16 ((head18 d s t []).id), .bool ((head18 d s t []).df), .bool ((head18 d s t []).mf), .int .i64 ((head18 d s t []).off), .int .u8 ((head18 d s t []).ttl), .int .u8 ((head18 d s t []).proto), .int .u8 ((head18 d s t []).s0), .int .u8 ((head18 d s t []).s1), .int .u8 ((head18 d s t []).s2), .int .u8 ((head18 d s t []).s3), .int .u8 ((head18 d s t []).d0), .int .u8 ((head18 d s t []).d1), .int .u8 ((head18 d s t []).d2), .int .u8 ((head18 d s t []).d3), .slice pZ18.oA ((head18 d s t []).ol.length) pZ18.oc, .slice A548 ((MR.write []).length) c549] _ _ rfl (by exact rfl) (by exact rfl) has610 (by kernel_rfl) rfl (by kernel_rfl) ?_)
      intro W589 hg590 bs591 hb592
      have b611 := bt hb46 hb88
      have b612 := bt b611 hb98
      have b613 := bt b612 hb105
      have l614 := lq b612 ge103
      have b615 := b613.trans (hb110.mono l614)
      have b616 := bt b615 hb486
      have b617 := bt b616 hb497
      have l618 := lq b616 ge495
      have b619 := b617.trans (hb502.mono l618)
      have b620 := bt b619 hb521
      have b621 := bt b620 hb532
      have l622 := lq b620 ge530
      have b623 := b621.trans (hb537.mono l622)
      have b624 := bt b623 hb544
      have b625 := b624.trans (hb554.mono l614)
      have b626 := bt b625 hb585
      have has627 := hg31.to b626
      have own628 := own579.to hb585
      have has629 := has580.to hb585
      have own630 := own581.to hb585
      have has631 := has582.to hb585
      have own632 := own583.to hb585
      have z633 := hb592.size
      have has634 := has627.but6 bs591 (by omega)
      have own635 := own628.but6 bs591 (by omega)
      have has636 := has629.but6 bs591 (by omega)
      have own637 := own630.but6 bs591 (by omega)
      have has638 := has631.but6 bs591 (by omega)
      have own639 := own632.but6 bs591 (by omega)
      have has640 := has588.but6 bs591 (by omega)
      simp only [lay]
      refine lz (ow_st1 36 (.tmp 7) (.const (.int .i64 0)) g29 0 (.int .i64 0) _ #[.int .i64 0] _ rfl (by exact rfl) (by exact rfl) rfl (by kernel_rfl) has634 rfl rfl (by kernel_rfl) ?_)
      intro W641 hg642 bs643 hb644
      have z645 := hb644.size
      have own646 := own635.but6 bs643 (by omega)
      have has647 := has636.but6 bs643 (by omega)
      have own648 := own637.but6 bs643 (by omega)
      have has649 := has638.but6 bs643 (by omega)
      have own650 := own639.but6 bs643 (by omega)
      have has651 := has640.but6 bs643 (by omega)
      have has652 := hg590.but6 bs643 (by omega)
      simp only [lay]
      refine wn ?_
      refine wp_ret ?_
      try simp only [Exit.then]
      have b653 := bt b483 hb486
      have b654 := bt b653 hb497
      have l655 := lq b653 ge495
      have b656 := b654.trans (hb502.mono l655)
      have b657 := bt b656 hb521
      have b658 := bt b657 hb532
      have l659 := lq b657 ge530
      have b660 := b658.trans (hb537.mono l659)
      have qp : d.part = false := by unfold D6.part; simp [*]; try omega
      have hany : any18 d s t s' t' = (MR.write [], 0) := by
       rw [any18_i (by assumption)]
       unfold icmp18
       simp only [hM, hPE, hMR, hME]
       repeat (first | rw [if_pos (by first | assumption | omega | exact ne_true_of_eq_false (by assumption))] | rw [if_neg (by first | assumption | omega | exact ne_true_of_eq_false (by assumption))])
      have e : pack18 d s t s' t' = (head18 d s t (MR.write []), 0) := by
       unfold pack18
       rw [hany]
       dsimp only
       repeat (first | rw [if_pos (by first | assumption | omega | exact ne_true_of_eq_false (by assumption))] | rw [if_neg (by first | assumption | omega | exact ne_true_of_eq_false (by assumption))])
      have h6 : Has _ _ (.cells ((head18 d s t (MR.write [])).cells (pB4 A548 c549)) 35 (0, 0)) := has652
      have b661 := bt b660 hb544
      have b662 := b661.trans (hb554.mono l482)
      have b663 := bt b662 hb585
      have l664 := lq b41 ge25
      have b665 := b663.trans (hb592.mono l664)
      have l666 := lq b42 ge32
      have b667 := b665.trans (hb644.mono l666)
      exact leave18_ok (res_cc Try.results9 rfl (h6.load (P := Try.prog) 35 Try.underlying35 rfl (by kernel_rfl)) rfl (load_errno hg642)) ⟨⟨_, by rw [e], by rw [e]; exact head18_own hR.ok hE (own650.more b660.size)⟩, b667⟩
     refine lv (.bool true) (by exact neq_int_ne (by exact rfl) (by exact rfl) (by exact rfl) (by first | assumption | omega)) ?_
     simp only [lay]
     refine wn ?_
     refine cT9 ?_
     refine wp_region_lit ?_
     refine lv (.iface 36 (.int .i64 2)) (by kernel_rfl) ?_
     simp only [lay]
     refine lz (ow_raise _ _ rfl (by exact rfl) ?_)
     have qp : d.part = false := by unfold D6.part; simp [*]; try omega
     have hany : any18 d s t s' t' = (MR.write [], 0) := by
      rw [any18_i (by assumption)]
      unfold icmp18
      simp only [hM, hPE, hMR, hME]
      repeat (first | rw [if_pos (by first | assumption | omega | exact ne_true_of_eq_false (by assumption))] | rw [if_neg (by first | assumption | omega | exact ne_true_of_eq_false (by assumption))])
     have e : pack18 d s t s' t' = (zero18, 2) := by
      unfold pack18
      rw [hany]
      dsimp only
      repeat (first | rw [if_pos (by first | assumption | omega | exact ne_true_of_eq_false (by assumption))] | rw [if_neg (by first | assumption | omega | exact ne_true_of_eq_false (by assumption))])
     have b668 := bt hb34 hb46
     have b669 := bt b668 hb88
     have b670 := bt b669 hb98
     have b671 := bt b670 hb105
     have l672 := lq b670 ge103
     have b673 := b671.trans (hb110.mono l672)
     have b674 := bt b673 hb486
     have b675 := bt b674 hb497
     have l676 := lq b674 ge495
     have b677 := b675.trans (hb502.mono l676)
     have b678 := bt b677 hb521
     have b679 := bt b678 hb532
     have l680 := lq b678 ge530
     have b681 := b679.trans (hb537.mono l680)
     have b682 := bt b681 hb544
     have b683 := b682.trans (hb554.mono l672)
     have b684 := bt b683 hb585
     have has685 := hg24.to b684
     have b686 := bt hb46 hb88
     have b687 := bt b686 hb98
     have b688 := bt b687 hb105
     have l689 := lq b687 ge103
     have b690 := b688.trans (hb110.mono l689)
     have b691 := bt b690 hb486
     have b692 := bt b691 hb497
     have l693 := lq b691 ge495
     have b694 := b692.trans (hb502.mono l693)
     have b695 := bt b694 hb521
     have b696 := bt b695 hb532
     have l697 := lq b695 ge530
     have b698 := b696.trans (hb537.mono l697)
     have b699 := bt b698 hb544
     have b700 := b699.trans (hb554.mono l689)
     have b701 := bt b700 hb585
     have has702 := hg31.to b701
     have b703 := bt b483 hb486
     have b704 := bt b703 hb497
     have l705 := lq b703 ge495
     have b706 := b704.trans (hb502.mono l705)
     have b707 := bt b706 hb521
     have b708 := bt b707 hb532
     have l709 := lq b707 ge530
     have b710 := b708.trans (hb537.mono l709)
     have b711 := bt b710 hb544
     have b712 := b711.trans (hb554.mono l482)
     have b713 := bt b712 hb585
     have l714 := lq b42 ge32
     refine leave18_fault has702 ?_
     intro W715 hE716 hb717 hk718
     exact ⟨_, res_cc Try.results9 rfl ((hk718 _ _ (by omega) has685).load (P := Try.prog) 35 Try.underlying35 rfl (by kernel_rfl)) rfl (load_errno hE716), ⟨pZ18, by rw [e]; rfl, by rw [e]; exact own4_z18 _ _⟩, b713.trans (hb717.mono l714)⟩
    refine lz (ow_panic [{ v := .iface 36 (.int .i64 ME), recovered := false }] (fun w' => W534 = w') (by exact xk Try.func28) (must18_yes ME q539 W534) ?_)
    rintro _ rfl
    have qp : d.part = false := by unfold D6.part; simp [*]; try omega
    have hany : any18 d s t s' t' = ([], ME) := by
     rw [any18_i (by assumption)]
     unfold icmp18
     simp only [hM, hPE, hMR, hME]
     repeat (first | rw [if_pos (by first | assumption | omega | exact ne_true_of_eq_false (by assumption))] | rw [if_neg (by first | assumption | omega | exact ne_true_of_eq_false (by assumption))])
    have e : pack18 d s t s' t' = (zero18, ME) := by
     unfold pack18
     rw [hany]
     dsimp only
     repeat (first | rw [if_pos (by first | assumption | omega | exact ne_true_of_eq_false (by assumption))] | rw [if_neg (by first | assumption | omega | exact ne_true_of_eq_false (by assumption))])
    have b719 := bt hb34 hb46
    have b720 := bt b719 hb88
    have b721 := bt b720 hb98
    have b722 := bt b721 hb105
    have l723 := lq b721 ge103
    have b724 := b722.trans (hb110.mono l723)
    have b725 := bt b724 hb486
    have b726 := bt b725 hb497
    have l727 := lq b725 ge495
    have b728 := b726.trans (hb502.mono l727)
    have b729 := bt b728 hb521
    have b730 := bt b729 hb532
    have l731 := lq b729 ge530
    have b732 := b730.trans (hb537.mono l731)
    have has733 := hg24.to b732
    have b734 := bt hb46 hb88
    have b735 := bt b734 hb98
    have b736 := bt b735 hb105
    have l737 := lq b735 ge103
    have b738 := b736.trans (hb110.mono l737)
    have b739 := bt b738 hb486
    have b740 := bt b739 hb497
    have l741 := lq b739 ge495
    have b742 := b740.trans (hb502.mono l741)
    have b743 := bt b742 hb521
    have b744 := bt b743 hb532
    have l745 := lq b743 ge530
    have b746 := b744.trans (hb537.mono l745)
    have has747 := hg31.to b746
    have b748 := bt b483 hb486
    have b749 := bt b748 hb497
    have l750 := lq b748 ge495
    have b751 := b749.trans (hb502.mono l750)
    have b752 := bt b751 hb521
    have b753 := bt b752 hb532
    have l754 := lq b752 ge530
    have b755 := b753.trans (hb537.mono l754)
    have l756 := lq b42 ge32
    refine leave18_fault has747 ?_
    intro W757 hE758 hb759 hk760
    exact ⟨_, res_cc Try.results9 rfl ((hk760 _ _ (by omega) has733).load (P := Try.prog) 35 Try.underlying35 rfl (by kernel_rfl)) rfl (load_errno hE758), ⟨pZ18, by rw [e]; rfl, by rw [e]; exact own4_z18 _ _⟩, b755.trans (hb759.mono l756)⟩
   refine lz (ow_panic [{ v := .iface 36 (.int .i64 PE), recovered := false }] (fun w' => W499 = w') (by exact xk Try.func28) (must18_yes PE q504 W499) ?_)
   rintro _ rfl
   have qp : d.part = false := by unfold D6.part; simp [*]; try omega
   have hany : any18 d s t s' t' = ([], PE) := by
    rw [any18_i (by assumption)]
    unfold icmp18
    simp only [hM, hPE, hMR, hME]
    repeat (first | rw [if_pos (by first | assumption | omega | exact ne_true_of_eq_false (by assumption))] | rw [if_neg (by first | assumption | omega | exact ne_true_of_eq_false (by assumption))])
   have e : pack18 d s t s' t' = (zero18, PE) := by
    unfold pack18
    rw [hany]
    dsimp only
    repeat (first | rw [if_pos (by first | assumption | omega | exact ne_true_of_eq_false (by assumption))] | rw [if_neg (by first | assumption | omega | exact ne_true_of_eq_false (by assumption))])
   have b761 := bt hb34 hb46
   have b762 := bt b761 hb88
   have b763 := bt b762 hb98
   have b764 := bt b763 hb105
   have l765 := lq b763 ge103
   have b766 := b764.trans (hb110.mono l765)
   have b767 := bt b766 hb486
   have b768 := bt b767 hb497
   have l769 := lq b767 ge495
   have b770 := b768.trans (hb502.mono l769)
   have has771 := hg24.to b770
   have b772 := bt hb46 hb88
   have b773 := bt b772 hb98
   have b774 := bt b773 hb105
   have l775 := lq b773 ge103
   have b776 := b774.trans (hb110.mono l775)
   have b777 := bt b776 hb486
   have b778 := bt b777 hb497
   have l779 := lq b777 ge495
   have b780 := b778.trans (hb502.mono l779)
   have has781 := hg31.to b780
   have b782 := bt b483 hb486
   have b783 := bt b782 hb497
   have l784 := lq b782 ge495
   have b785 := b783.trans (hb502.mono l784)
   have l786 := lq b42 ge32
   refine leave18_fault has781 ?_
   intro W787 hE788 hb789 hk790
   exact ⟨_, res_cc Try.results9 rfl ((hk790 _ _ (by omega) has771).load (P := Try.prog) 35 Try.underlying35 rfl (by kernel_rfl)) rfl (load_errno hE788), ⟨pZ18, by rw [e]; rfl, by rw [e]; exact own4_z18 _ _⟩, b785.trans (hb789.mono l786)⟩
  refine lv (.bool false) (by exact yqn) ?_
  simp only [lay]
  refine wn ?_
  refine cF9 ?_
  refine wp_region_lit ?_
  refine lv (.agg (d.cells p)) (by exact xo (has116.load (P := Try.prog) 28 Try.underlying28 rfl (by kernel_rfl))) ?_
  simp only [lay]
  have b791 := bt b95 hb98
  have b792 := bt b791 hb105
  have l793 := lq b791 ge103
  have b794 := b792.trans (hb110.mono l793)
  have has795 := hg10.to b794
  refine lv (.agg (e4c s t)) (by exact xo (has795.load (P := Try.prog) 32 Try.underlying32 rfl (by kernel_rfl))) ?_
  simp only [lay]
  by_cases q796 : BE = 0
  case pos =>
   have b797 := bt b85 hb88
   have b798 := bt b797 hb98
   have b799 := bt b798 hb105
   have l800 := lq b798 ge103
   have b801 := b799.trans (hb110.mono l800)
   have rd802 := hR.to b801
   refine lz (ow_call (fun v w' => OwnB w' W107.heap.size v BL ∧ Below W107.heap.size W107 w') (by exact xk Try.func34) ((body18_any d p s t hE W107 rd802 hbl).mono fun e w' h => (by obtain ⟨v, hv, ho⟩ := h.1.1 (by rw [hBE]; exact q796); rw [hBL] at ho; exact ⟨v, hv, ho, h.2⟩)) ?_)
   rintro v805 W803 ⟨hO806, hb804⟩
   have z807 := hb804.size
   obtain ⟨A808, c809, rfl, y810⟩ := hO806.by_
   simp only [lay]
   refine lv (.pointer (some ⟨g100, 16, none⟩)) (by exact xf 16 0 Try.underlying35) ?_
   simp only [lay]
   have has815 := hg108.to hb804
   refine lz (ow_st1 26 (.tmp 66) (.tmp 65) g100 16 (.slice A808 BL.length c809) _ #[.int .u8 ((head18 d s t []).tos), .int .u16 ((head18 d s t []).id), .bool ((head18 d s t []).df), .bool ((head18 d s t []).mf), .int .i64 ((head18 d s t []).off), .int .u8 ((head18 d s t []).ttl), .int .u8 ((head18 d s t []).proto), .int .u8 ((head18 d s t []).s0), .int .u8 ((head18 d s t []).s1), .int .u8 ((head18 d s t []).s2), .int .u8 ((head18 d s t []).s3), .int .u8 ((head18 d s t []).d0), .int .u8 ((head18 d s t []).d1), .int .u8 ((head18 d s t []).d2), .int .u8 ((head18 d s t []).d3), .slice pZ18.oA ((head18 d s t []).ol.length) pZ18.oc, .slice A808 BL.length c809] _ rfl (by exact rfl) (by exact rfl) rfl (by kernel_rfl) has815 rfl rfl (by kernel_rfl) ?_)
   intro W811 hg812 bs813 hb814
   have z816 := hb814.size
   have own817 := hO806.but6 bs813 (by omega)
   simp only [lay]
   refine wn ?_
   refine wp_seq ?_
   refine wp_sr ?_
   refine lv (.agg #[.int .u8 ((head18 d s t []).tos), .int .u16 ((head18 d s t []).id), .bool ((head18 d s t []).df), .bool ((head18 d s t []).mf), .int .i64 ((head18 d s t []).off), .int .u8 ((head18 d s t []).ttl), .int .u8 ((head18 d s t []).proto), .int .u8 ((head18 d s t []).s0), .int .u8 ((head18 d s t []).s1), .int .u8 ((head18 d s t []).s2), .int .u8 ((head18 d s t []).s3), .int .u8 ((head18 d s t []).d0), .int .u8 ((head18 d s t []).d1), .int .u8 ((head18 d s t []).d2), .int .u8 ((head18 d s t []).d3), .slice pZ18.oA ((head18 d s t []).ol.length) pZ18.oc, .slice A808 BL.length c809]) (by exact xo (hg812.load (P := Try.prog) 35 Try.underlying35 rfl (by kernel_rfl))) ?_
   simp only [lay]
   refine lz (ow_call (fun v w' => v = .int .i64 ((head18 d s t BL).check) ∧ Below W811.heap.size W811 w') (by exact xk Try.func35) (check_x (head18_rd hR.ok hE (A := A808) (c := c809) (own_byS own817))) ?_)
   rintro _ W818 ⟨rfl, hb819⟩
   have z820 := hb819.size
   simp only [lay]
   by_cases q821 : (head18 d s t BL).check = 0
   case pos =>
    refine lv (.bool false) (by exact neq_int_eq (by exact rfl) (by exact rfl) (by exact rfl) (by first | assumption | omega)) ?_
    simp only [lay]
    refine wn ?_
    refine cF9 ?_
    refine wp_skip ?_
    change Code.wp _ _ _ _ _
    refine wp_sr ?_
    have has822 := hg812.to hb819
    refine lv (.agg #[.int .u8 ((head18 d s t []).tos), .int .u16 ((head18 d s t []).id), .bool ((head18 d s t []).df), .bool ((head18 d s t []).mf), .int .i64 ((head18 d s t []).off), .int .u8 ((head18 d s t []).ttl), .int .u8 ((head18 d s t []).proto), .int .u8 ((head18 d s t []).s0), .int .u8 ((head18 d s t []).s1), .int .u8 ((head18 d s t []).s2), .int .u8 ((head18 d s t []).s3), .int .u8 ((head18 d s t []).d0), .int .u8 ((head18 d s t []).d1), .int .u8 ((head18 d s t []).d2), .int .u8 ((head18 d s t []).d3), .slice pZ18.oA ((head18 d s t []).ol.length) pZ18.oc, .slice A808 BL.length c809]) (by exact xo (has822.load (P := Try.prog) 35 Try.underlying35 rfl (by kernel_rfl))) ?_
    simp only [lay]
    have b827 := bt hb34 hb46
    have b828 := bt b827 hb88
    have b829 := bt b828 hb98
    have b830 := bt b829 hb105
    have l831 := lq b829 ge103
    have b832 := b830.trans (hb110.mono l831)
    have b833 := bt b832 hb804
    have b834 := b833.trans (hb814.mono l831)
    have b835 := bt b834 hb819
    have has836 := hg24.to b835
    refine lz (ow_st 35 (.tmp 6) (.tmp 71) g22 #[.int .u8 ((head18 d s t []).tos), .int .u16 ((head18 d s t []).id), .bool ((head18 d s t []).df), .bool ((head18 d s t []).mf), .int .i64 ((head18 d s t []).off), .int .u8 ((head18 d s t []).ttl), .int .u8 ((head18 d s t []).proto), .int .u8 ((head18 d s t []).s0), .int .u8 ((head18 d s t []).s1), .int .u8 ((head18 d s t []).s2), .int .u8 ((head18 d s t []).s3), .int .u8 ((head18 d s t []).d0), .int .u8 ((head18 d s t []).d1), .int .u8 ((head18 d s t []).d2), .int .u8 ((head18 d s t []).d3), .slice pZ18.oA ((head18 d s t []).ol.length) pZ18.oc, .slice A808 BL.length c809] _ _ rfl (by exact rfl) (by exact rfl) has836 (by kernel_rfl) rfl (by kernel_rfl) ?_)
    intro W823 hg824 bs825 hb826
    have b837 := bt hb46 hb88
    have b838 := bt b837 hb98
    have b839 := bt b838 hb105
    have l840 := lq b838 ge103
    have b841 := b839.trans (hb110.mono l840)
    have b842 := bt b841 hb804
    have b843 := b842.trans (hb814.mono l840)
    have b844 := bt b843 hb819
    have has845 := hg31.to b844
    have own846 := own817.to hb819
    have z847 := hb826.size
    have has848 := has845.but6 bs825 (by omega)
    have own849 := own846.but6 bs825 (by omega)
    have has850 := has822.but6 bs825 (by omega)
    simp only [lay]
    refine lz (ow_st1 36 (.tmp 7) (.const (.int .i64 0)) g29 0 (.int .i64 0) _ #[.int .i64 0] _ rfl (by exact rfl) (by exact rfl) rfl (by kernel_rfl) has848 rfl rfl (by kernel_rfl) ?_)
    intro W851 hg852 bs853 hb854
    have z855 := hb854.size
    have own856 := own849.but6 bs853 (by omega)
    have has857 := has850.but6 bs853 (by omega)
    have has858 := hg824.but6 bs853 (by omega)
    simp only [lay]
    refine wn ?_
    refine wp_ret ?_
    try simp only [Exit.then]
    have hany : any18 d s t s' t' = (BL, 0) := by
     rw [any18_b (by assumption)]
     exact Prod.ext hBL (hBE.trans (by assumption))
    have e : pack18 d s t s' t' = (head18 d s t (BL), 0) := by
     unfold pack18
     rw [hany]
     dsimp only
     repeat (first | rw [if_pos (by first | assumption | omega | exact ne_true_of_eq_false (by assumption))] | rw [if_neg (by first | assumption | omega | exact ne_true_of_eq_false (by assumption))])
    have h6 : Has _ _ (.cells ((head18 d s t (BL)).cells (pB4 A808 c809)) 35 (0, 0)) := has858
    have b859 := bt b801 hb804
    have b860 := b859.trans (hb814.mono l800)
    have b861 := bt b860 hb819
    have l862 := lq b41 ge25
    have b863 := b861.trans (hb826.mono l862)
    have l864 := lq b42 ge32
    have b865 := b863.trans (hb854.mono l864)
    exact leave18_ok (res_cc Try.results9 rfl (h6.load (P := Try.prog) 35 Try.underlying35 rfl (by kernel_rfl)) rfl (load_errno hg852)) ⟨⟨_, by rw [e], by rw [e]; exact head18_own hR.ok hE (own856.more b801.size)⟩, b865⟩
   refine lv (.bool true) (by exact neq_int_ne (by exact rfl) (by exact rfl) (by exact rfl) (by first | assumption | omega)) ?_
   simp only [lay]
   refine wn ?_
   refine cT9 ?_
   refine wp_region_lit ?_
   refine lv (.iface 36 (.int .i64 2)) (by kernel_rfl) ?_
   simp only [lay]
   refine lz (ow_raise _ _ rfl (by exact rfl) ?_)
   have hany : any18 d s t s' t' = (BL, 0) := by
    rw [any18_b (by assumption)]
    exact Prod.ext hBL (hBE.trans (by assumption))
   have e : pack18 d s t s' t' = (zero18, 2) := by
    unfold pack18
    rw [hany]
    dsimp only
    repeat (first | rw [if_pos (by first | assumption | omega | exact ne_true_of_eq_false (by assumption))] | rw [if_neg (by first | assumption | omega | exact ne_true_of_eq_false (by assumption))])
   have b866 := bt hb34 hb46
   have b867 := bt b866 hb88
   have b868 := bt b867 hb98
   have b869 := bt b868 hb105
   have l870 := lq b868 ge103
   have b871 := b869.trans (hb110.mono l870)
   have b872 := bt b871 hb804
   have b873 := b872.trans (hb814.mono l870)
   have b874 := bt b873 hb819
   have has875 := hg24.to b874
   have b876 := bt hb46 hb88
   have b877 := bt b876 hb98
   have b878 := bt b877 hb105
   have l879 := lq b877 ge103
   have b880 := b878.trans (hb110.mono l879)
   have b881 := bt b880 hb804
   have b882 := b881.trans (hb814.mono l879)
   have b883 := bt b882 hb819
   have has884 := hg31.to b883
   have b885 := bt b801 hb804
   have b886 := b885.trans (hb814.mono l800)
   have b887 := bt b886 hb819
   have l888 := lq b42 ge32
   refine leave18_fault has884 ?_
   intro W889 hE890 hb891 hk892
   exact ⟨_, res_cc Try.results9 rfl ((hk892 _ _ (by omega) has875).load (P := Try.prog) 35 Try.underlying35 rfl (by kernel_rfl)) rfl (load_errno hE890), ⟨pZ18, by rw [e]; rfl, by rw [e]; exact own4_z18 _ _⟩, b887.trans (hb891.mono l888)⟩
  have b893 := bt b85 hb88
  have b894 := bt b893 hb98
  have b895 := bt b894 hb105
  have l896 := lq b894 ge103
  have b897 := b895.trans (hb110.mono l896)
  have rd898 := hR.to b897
  refine lz (ow_panic [{ v := .iface 36 (.int .i64 BE), recovered := false }] (fun w' => Below W107.heap.size W107 w') (by exact xk Try.func34) ((body18_any d p s t hE W107 rd898 hbl).mono fun e w' h => ⟨by rw [← hBE]; exact h.1.2 (by rw [hBE]; exact q796), h.2⟩) ?_)
  rintro W899 hb900
  have z901 := hb900.size
  have hany : any18 d s t s' t' = ([], BE) := by
   rw [any18_b (by assumption)]
   exact Prod.ext (bad18_nil d s t (by rw [hBE]; assumption)) hBE
  have e : pack18 d s t s' t' = (zero18, BE) := by
   unfold pack18
   rw [hany]
   dsimp only
   repeat (first | rw [if_pos (by first | assumption | omega | exact ne_true_of_eq_false (by assumption))] | rw [if_neg (by first | assumption | omega | exact ne_true_of_eq_false (by assumption))])
  have b902 := bt hb34 hb46
  have b903 := bt b902 hb88
  have b904 := bt b903 hb98
  have b905 := bt b904 hb105
  have l906 := lq b904 ge103
  have b907 := b905.trans (hb110.mono l906)
  have b908 := bt b907 hb900
  have has909 := hg24.to b908
  have b910 := bt hb46 hb88
  have b911 := bt b910 hb98
  have b912 := bt b911 hb105
  have l913 := lq b911 ge103
  have b914 := b912.trans (hb110.mono l913)
  have b915 := bt b914 hb900
  have has916 := hg31.to b915
  have b917 := bt b897 hb900
  have l918 := lq b42 ge32
  refine leave18_fault has916 ?_
  intro W919 hE920 hb921 hk922
  exact ⟨_, res_cc Try.results9 rfl ((hk922 _ _ (by omega) has909).load (P := Try.prog) 35 Try.underlying35 rfl (by kernel_rfl)) rfl (load_errno hE920), ⟨pZ18, by rw [e]; rfl, by rw [e]; exact own4_z18 _ _⟩, b917.trans (hb921.mono l918)⟩
 refine lz (ow_panic [{ v := .iface 36 (.int .i64 d.check), recovered := false }] (fun w' => W45 = w') (by exact xk Try.func28) (must18_yes d.check q48 W45) ?_)
 rintro _ rfl
 have e : pack18 d s t s' t' = (zero18, d.check) := by
  unfold pack18
  repeat (first | rw [if_pos (by first | assumption | omega | exact ne_true_of_eq_false (by assumption))] | rw [if_neg (by first | assumption | omega | exact ne_true_of_eq_false (by assumption))])
 have b923 := bt hb34 hb46
 have has924 := hg24.to b923
 have has925 := hg31.to hb46
 have b926 := bt b43 hb46
 have l927 := lq b42 ge32
 refine leave18_fault has925 ?_
 intro W928 hE929 hb930 hk931
 exact ⟨_, res_cc Try.results9 rfl ((hk931 _ _ (by omega) has924).load (P := Try.prog) 35 Try.underlying35 rfl (by kernel_rfl)) rfl (load_errno hE929), ⟨pZ18, by rw [e]; rfl, by rw [e]; exact own4_z18 _ _⟩, b926.trans (hb930.mono l927)⟩
end Go.Proofs.Ytjnphelfloiadaa
