/-
  Lemmas and walks for the row of TosixRight (part 28 of 33).
-/
import Derived.Test.YtijnifbpbgckgaaTrAF
import Derived.Test.YtijnifbpbgckgaaTrBA
set_option linter.unusedVariables false
set_option linter.unusedSimpArgs false
namespace Go.Proofs.Ytijnifbpbgckgaa
open Go.RowKit Go.Shelf
attribute [local irreducible] wpList Code.wp Oper.wp wpOp wpAnyH

theorem ptr17_rng {n : Int} (h : 0 ≤ n ∧ n ≤ 255) : 0 ≤ (ptr17 n).1 ∧ (ptr17 n).1 < 4294967296 := by
 unfold ptr17
 repeat' split
 all_goals (simp only []; omega)
theorem unr17_rng (n : Int) : 0 ≤ (unr17 n).1 ∧ (unr17 n).1 ≤ 255 := by
 unfold unr17
 repeat' split
 all_goals (simp only []; omega)
theorem kind17_ok {m : D7} (hm : m.ok) (bl : List Int) : (⟨(kind17 m).1.1, (kind17 m).1.2.1, (kind17 m).1.2.2, bl⟩ : D7).ok := by
 have h1 := hm.rest
 have h2 := hm.code
 have h3 := unr17_rng m.code
 have h4 := ptr17_rng (n := m.rest / 16777216) (by omega)
 have h5 : 0 ≤ mtu17 (m.rest % 65536) ∧ mtu17 (m.rest % 65536) < 4294967296 := by unfold mtu17; split <;> omega
 refine ⟨?_, ?_, ?_⟩
 all_goals (show 0 ≤ _ ∧ _)
 all_goals unfold kind17
 all_goals repeat' split
 all_goals (simp only []; omega)

/-- a message and its error, in memory of the call's own -/
def ToldM17 (r : D7 × Int) (base : Nat) (w' : World) (e : Ending) : Prop := ∃ A c, e = .returned (.tuple #[.agg (r.1.cells A c), .int .i64 r.2]) ∧ r.1.ok ∧ OwnB w' base (.slice A r.1.bl.length c) r.1.bl

set_option maxRecDepth 100000 in
set_option maxHeartbeats 8000000 in
theorem msg17_any (m : D7) (A : Option Addr) (c : Nat) (s t : List Int) (hE : E6ok s t) (w : World) (hR : Rd7 w.heap.size w m A c) :
  Calls Try.prog 14 #[.agg (m.cells A c), .agg (ends6 s t)] w fun e w' => ToldM17 (msg17 m s t) w.heap.size w' e ∧ Below w.heap.size w w' := by
 obtain ⟨K1, hK1⟩ : ∃ x, (kind17 m).1.1 = x := ⟨_, rfl⟩
 obtain ⟨K2, hK2⟩ : ∃ x, (kind17 m).1.2.1 = x := ⟨_, rfl⟩
 obtain ⟨K3, hK3⟩ : ∃ x, (kind17 m).1.2.2 = x := ⟨_, rfl⟩
 obtain ⟨IE, hIE⟩ : ∃ x, (inside17 m.bl s t).2 = x := ⟨_, rfl⟩
 obtain ⟨IL, hIL⟩ : ∃ x, (inside17 m.bl s t).1 = x := ⟨_, rfl⟩
 have y := hR.body
 go_enter_defers Try.func14, Try.ntmps14
 refine wp_sr ?_
 refine lz (ow_box 46 (.tmp 0) _ rfl rfl ?_)
 intro g1 W2 hg3 ge4 sz5 hb6
 have z7 := hb6.size
 simp only [lay]
 refine lz (ow_box 31 (.tmp 1) _ rfl rfl ?_)
 intro g8 W9 hg10 ge11 sz12 hb13
 have z14 := hb13.size
 simp only [lay]
 refine lz (oa #[.int .u8 0, .int .u8 0, .int .u32 0, .slice none 0 0] ?_)
 intro g15 W16 hg17 ge18 sz19 hb20
 have z21 := hb20.size
 simp only [lay]
 refine lz (ow_alloc (.int .i64 0) #[.int .i64 0] rfl (by kernel_rfl) rfl ?_)
 intro g22 W23 hg24 ge25 sz26 hb27
 have z28 := hb27.size
 simp only [lay]
 refine wn ?_
 refine wp_sr ?_
 refine lz (ow_defer (k := 32) rfl rfl ?_)
 simp only [lay]
 refine wn ?_
 refine wp_sr ?_
 have b29 := bt hb13 hb20
 have b30 := bt b29 hb27
 have has31 := hg3.to b30
 refine lv (.agg (m.cells A c)) (by exact xo (has31.load (P := Try.prog) 46 Try.underlying46 rfl (by kernel_rfl))) ?_
 simp only [lay]
 by_cases q32 : (kind17 m).2 = true
 case pos =>
  refine lz (ow_call (fun v w' => v = .agg #[.int .u8 K1, .int .u8 K2, .int .u32 K3, .slice none 0 0] ∧ Below W23.heap.size W23 w') (by exact xk Try.func50) ((kind17_any m hR.ok _ _ W23).mono fun e w' h => ⟨_, (by have := h.1.1 q32; rw [hK1, hK2, hK3] at this; exact this), rfl, h.2⟩) ?_)
  rintro _ W33 ⟨rfl, hb34⟩
  have z35 := hb34.size
  simp only [lay]
  refine lz (oa #[.int .u8 0, .int .u8 0, .int .u32 0, .slice none 0 0] ?_)
  intro g36 W37 hg38 ge39 sz40 hb41
  have z42 := hb41.size
  simp only [lay]
  refine lz (ow_st 46 (.tmp 6) (.tmp 10) g36 #[.int .u8 K1, .int .u8 K2, .int .u32 K3, .slice none 0 0] _ _ rfl (by exact rfl) (by exact rfl) hg38 (by kernel_rfl) rfl (by kernel_rfl) ?_)
  intro W43 hg44 bs45 hb46
  have z47 := hb46.size
  simp only [lay]
  refine wn ?_
  refine wp_sr ?_
  refine lv (.pointer (some ⟨g1, 3, none⟩)) (by exact xf 3 0 Try.underlying46) ?_
  simp only [lay]
  have b48 := bt b30 hb34
  have b49 := bt b48 hb41
  have l50 := lq b48 ge39
  have b51 := b49.trans (hb46.mono l50)
  have has52 := hg3.to b51
  refine lv (.slice A m.bl.length c) (by exact xc Try.underlying25 (has52.cell 3 rfl)) ?_
  simp only [lay]
  refine lv (.int .i64 (m.bl.length : Int)) (by exact xz Try.underlying25) ?_
  simp only [lay]
  by_cases q53 : (m.bl.length : Int) > 65527
  case pos =>
   refine lv (.bool true) (by exact ex_gtr (by exact rfl) (by exact rfl) (by exact rfl) (decide_eq_true (by first | assumption | omega | decide))) ?_
   simp only [lay]
   refine lz (ow_panic [{ v := .iface 111 (.agg #[.int .i64 2]), recovered := false }] (fun w' => W43 = w') (by exact xk Try.func35) (when17_yes 2 W43) ?_)
   rintro _ rfl
   have e : msg17 m s t = (zero7, 2) := by
    unfold msg17
    rw [if_neg (by simp [*])]
    simp only [hK1, hK2, hK3, hIE, hIL]
    repeat (first | rw [if_pos (by first | assumption | omega)] | rw [if_neg (by first | assumption | omega)])
   have b54 := bt hb34 hb41
   have l55 := lq hb34 ge39
   have b56 := b54.trans (hb46.mono l55)
   have has57 := hg24.to b56
   have b58 := bt hb6 hb13
   have b59 := bt b58 hb20
   have b60 := bt b59 hb27
   have b61 := bt b60 hb34
   have b62 := bt b61 hb41
   have l63 := lq b61 ge39
   have b64 := b62.trans (hb46.mono l63)
   have l65 := lq b59 ge25
   have b66 := bt hb27 hb34
   have b67 := bt b66 hb41
   have l68 := lq b66 ge39
   have b69 := b67.trans (hb46.mono l68)
   have has70 := hg17.to b69
   refine leave17_fault has57 ?_
   intro W71 hE72 hb73 hk74
   exact ⟨_, res_cc Try.results14 rfl ((hk74 _ _ (by omega) has70).load (P := Try.prog) 46 Try.underlying46 rfl (by kernel_rfl)) rfl (load_errno hE72), ⟨none, 0, by rw [e]; rfl, by rw [e]; exact zero7_ok, by rw [e]; exact OwnB.nil _ _⟩, b64.trans (hb73.mono l65)⟩
  refine lv (.bool false) (by exact ex_gtr (by exact rfl) (by exact rfl) (by exact rfl) (decide_eq_false (by first | assumption | omega | decide))) ?_
  simp only [lay]
  refine lz (ow_same (.tuple #[]) (by exact xk Try.func35) (when17_no 2 W43) ?_)
  simp only [lay]
  refine wn ?_
  refine wp_seq ?_
  refine wp_sr ?_
  refine lv (.pointer (some ⟨g36, 0, none⟩)) (by exact xf 0 0 Try.underlying46) ?_
  simp only [lay]
  refine lv (.int .u8 K1) (by exact xc Try.underlying5 (hg44.cell 0 rfl)) ?_
  simp only [lay]
  by_cases q75 : K1 ≥ 128
  case pos =>
   refine lv (.bool true) (by exact ex_geq (by exact rfl) (by exact rfl) (by exact rfl) (decide_eq_true (by first | assumption | omega | decide))) ?_
   simp only [lay]
   refine wn ?_
   refine wp_cond_true (by exact rfl) ?_
   refine wp_sr ?_
   refine lv (.pointer (some ⟨g1, 3, none⟩)) (by exact xf 3 0 Try.underlying46) ?_
   simp only [lay]
   refine lv (.slice A m.bl.length c) (by exact xc Try.underlying25 (has52.cell 3 rfl)) ?_
   simp only [lay]
   have b76 := bt hb6 hb13
   have b77 := bt b76 hb20
   have b78 := bt b77 hb27
   have b79 := bt b78 hb34
   have b80 := bt b79 hb41
   have l81 := lq b79 ge39
   have b82 := b80.trans (hb46.mono l81)
   have by83 := y.to b82
   refine lz (ow_call (fun v w' => OwnB w' W43.heap.size v m.bl ∧ Below W43.heap.size W43 w') (by exact xk Try.func51) (clone_n _ _ _ m.bl W43 by83 (by omega)) ?_)
   rintro v86 W84 ⟨hO87, hb85⟩
   have z88 := hb85.size
   obtain ⟨A89, c90, rfl, y91⟩ := hO87.by_
   simp only [lay]
   refine lv (.pointer (some ⟨g36, 3, none⟩)) (by exact xf 3 0 Try.underlying46) ?_
   simp only [lay]
   have has96 := hg44.to hb85
   refine lz (ow_st1 25 (.tmp 22) (.tmp 21) g36 3 (.slice A89 m.bl.length c90) _ #[.int .u8 K1, .int .u8 K2, .int .u32 K3, .slice A89 m.bl.length c90] _ rfl (by exact rfl) (by exact rfl) rfl (by kernel_rfl) has96 rfl rfl (by kernel_rfl) ?_)
   intro W92 hg93 bs94 hb95
   have z97 := hb95.size
   have own98 := hO87.but6 bs94 (by omega)
   simp only [lay]
   refine wn ?_
   refine wp_sr ?_
   refine lv (.agg #[.int .u8 K1, .int .u8 K2, .int .u32 K3, .slice A89 m.bl.length c90]) (by exact xo (hg93.load (P := Try.prog) 46 Try.underlying46 rfl (by kernel_rfl))) ?_
   simp only [lay]
   have b103 := bt hb27 hb34
   have b104 := bt b103 hb41
   have l105 := lq b103 ge39
   have b106 := b104.trans (hb46.mono l105)
   have b107 := bt b106 hb85
   have b108 := b107.trans (hb95.mono l105)
   have has109 := hg17.to b108
   refine lz (ow_st 46 (.tmp 4) (.tmp 23) g15 #[.int .u8 K1, .int .u8 K2, .int .u32 K3, .slice A89 m.bl.length c90] _ _ rfl (by exact rfl) (by exact rfl) has109 (by kernel_rfl) rfl (by kernel_rfl) ?_)
   intro W99 hg100 bs101 hb102
   have b110 := bt hb34 hb41
   have l111 := lq hb34 ge39
   have b112 := b110.trans (hb46.mono l111)
   have b113 := bt b112 hb85
   have b114 := b113.trans (hb95.mono l111)
   have has115 := hg24.to b114
   have z116 := hb102.size
   have has117 := has115.but6 bs101 (by omega)
   have own118 := own98.but6 bs101 (by omega)
   have has119 := hg93.but6 bs101 (by omega)
   simp only [lay]
   refine lz (ow_st1 37 (.tmp 5) (.const (.int .i64 0)) g22 0 (.int .i64 0) _ #[.int .i64 0] _ rfl (by exact rfl) (by exact rfl) rfl (by kernel_rfl) has117 rfl rfl (by kernel_rfl) ?_)
   intro W120 hg121 bs122 hb123
   have z124 := hb123.size
   have own125 := own118.but6 bs122 (by omega)
   have has126 := has119.but6 bs122 (by omega)
   have has127 := hg100.but6 bs122 (by omega)
   simp only [lay]
   refine wn ?_
   refine wp_ret ?_
   try simp only [Exit.then]
   have e : msg17 m s t = (⟨K1, K2, K3, m.bl⟩, 0) := by
    unfold msg17
    rw [if_neg (by simp [*])]
    simp only [hK1, hK2, hK3, hIE, hIL]
    repeat (first | rw [if_pos (by first | assumption | omega)] | rw [if_neg (by first | assumption | omega)])
   have hcs : (#[.int .u8 K1, .int .u8 K2, .int .u32 K3, .slice A89 m.bl.length c90] : Array Value) = (⟨K1, K2, K3, m.bl⟩ : D7).cells A89 c90 := by
    show _ = (#[.int .u8 K1, .int .u8 K2, .int .u32 K3, .slice A89 (m.bl).length c90] : Array Value)
    rw [← own_len own125]
   have h4 := has127
   rw [hcs] at h4
   have hO4 := own_norm (own125.more b82.size)
   have b128 := bt b82 hb85
   have b129 := b128.trans (hb95.mono l81)
   have l130 := lq b76 ge18
   have b131 := b129.trans (hb102.mono l130)
   have l132 := lq b77 ge25
   have b133 := b131.trans (hb123.mono l132)
   exact leave17_ok (res_cc Try.results14 rfl (h4.load (P := Try.prog) 46 Try.underlying46 rfl (by kernel_rfl)) rfl (load_errno hg121)) ⟨⟨A89, c90, by rw [e], by rw [e, ← hK1, ← hK2, ← hK3]; exact kind17_ok hR.ok _, by rw [e]; exact hO4⟩, b133⟩
  refine lv (.bool false) (by exact ex_geq (by exact rfl) (by exact rfl) (by exact rfl) (decide_eq_false (by first | assumption | omega | decide))) ?_
  simp only [lay]
  refine wn ?_
  refine wp_cond_false (by exact rfl) ?_
  refine wp_skip ?_
  change Code.wp _ _ _ _ _
  refine wp_sr ?_
  refine lv (.pointer (some ⟨g1, 3, none⟩)) (by exact xf 3 0 Try.underlying46) ?_
  simp only [lay]
  refine lv (.slice A m.bl.length c) (by exact xc Try.underlying25 (has52.cell 3 rfl)) ?_
  simp only [lay]
  have b134 := bt hb20 hb27
  have b135 := bt b134 hb34
  have b136 := bt b135 hb41
  have l137 := lq b135 ge39
  have b138 := b136.trans (hb46.mono l137)
  have has139 := hg10.to b138
  refine lv (.agg (ends6 s t)) (by exact xo (has139.load (P := Try.prog) 31 Try.underlying31 rfl (by kernel_rfl))) ?_
  simp only [lay]
  have b140 := bt hb6 hb13
  have b141 := bt b140 hb20
  have b142 := bt b141 hb27
  have b143 := bt b142 hb34
  have b144 := bt b143 hb41
  have l145 := lq b143 ge39
  have b146 := b144.trans (hb46.mono l145)
  have by147 := y.to b146
  refine lz (ow_call (fun v w' => (∃ u, v = .tuple #[u, .int .i64 IE] ∧ OwnB w' W43.heap.size u IL) ∧ Below W43.heap.size W43 w') (by exact xk Try.func17) ((inside17_any _ _ _ _ _ _ hE W43 by147).mono (by rintro e w' ⟨⟨v, rfl, ho⟩, hb⟩; exact ⟨_, rfl, ⟨v, by rw [hIE], by rw [← hIL]; exact ho⟩, hb⟩)) ?_)
  rintro _ W148 ⟨⟨u150, rfl, hO151⟩, hb149⟩
  have z152 := hb149.size
  obtain ⟨A153, c154, rfl, y155⟩ := hO151.by_
  simp only [lay]
  refine lv (.tuple #[.slice A153 IL.length c154, .int .i64 IE]) (by exact xm) ?_
  simp only [lay]
  refine lv (.slice A153 IL.length c154) (by exact xe) ?_
  simp only [lay]
  refine lv (.int .i64 IE) (by exact xe) ?_
  simp only [lay]
  refine lv (.slice A153 IL.length c154) (by exact xa) ?_
  simp only [lay]
  refine lv (.int .i64 IE) (by exact xa) ?_
  simp only [lay]
  refine wn ?_
  refine wp_sr ?_
  refine lv (.int .i64 IE) (by exact xm) ?_
  simp only [lay]
  by_cases q156 : IE = 0
  case pos =>
   rw [q156]
   refine lz (ow_same (.tuple #[]) (by exact xk Try.func33) (must17_no W148) ?_)
   simp only [lay]
   refine wn ?_
   refine wp_sr ?_
   refine lv (.slice A153 IL.length c154) (by exact xm) ?_
   simp only [lay]
   refine lv (.slice A153 IL.length c154) (by exact xm) ?_
   simp only [lay]
   refine lv (.int .i64 (IL.length : Int)) (by exact xz Try.underlying25) ?_
   simp only [lay]
   by_cases q157 : (IL.length : Int) ≤ 1232
   case pos =>
    refine lv (.int .i64 (IL.length : Int)) (by exact ex_min (r := (IL.length : Int)) (by exact rfl) (by exact rfl) (by exact rfl) (by first | rw [if_pos (by omega)] | rw [if_neg (by omega)])) ?_
    simp only [lay]
    have y159 := (own_byS hO151)
    have y158 := y159.to_ (P := Try.prog) 25 Try.underlying25 (by kernel_rfl) (k := IL.length) (by omega)
    have hO160 := hO151.take (k := IL.length) (by omega)
    refine lv (.slice A153 IL.length c154) (by exact ex_slice (by exact rfl) (by exact rfl) (y158.1 _)) ?_
    simp only [lay]
    refine lv (.pointer (some ⟨g36, 3, none⟩)) (by exact xf 3 0 Try.underlying46) ?_
    simp only [lay]
    have has165 := hg44.to hb149
    refine lz (ow_st1 25 (.tmp 38) (.tmp 37) g36 3 (.slice A153 IL.length c154) _ #[.int .u8 K1, .int .u8 K2, .int .u32 K3, .slice A153 IL.length c154] _ rfl (by exact rfl) (by exact rfl) rfl (by kernel_rfl) has165 rfl rfl (by kernel_rfl) ?_)
    intro W161 hg162 bs163 hb164
    have z166 := hb164.size
    have own167 := hO151.but6 bs163 (by omega)
    have own168 := hO160.but6 bs163 (by omega)
    simp only [lay]
    refine wn ?_
    refine wp_sr ?_
    refine lv (.agg #[.int .u8 K1, .int .u8 K2, .int .u32 K3, .slice A153 IL.length c154]) (by exact xo (hg162.load (P := Try.prog) 46 Try.underlying46 rfl (by kernel_rfl))) ?_
    simp only [lay]
    have b173 := bt hb27 hb34
    have b174 := bt b173 hb41
    have l175 := lq b173 ge39
    have b176 := b174.trans (hb46.mono l175)
    have b177 := bt b176 hb149
    have b178 := b177.trans (hb164.mono l175)
    have has179 := hg17.to b178
    refine lz (ow_st 46 (.tmp 4) (.tmp 39) g15 #[.int .u8 K1, .int .u8 K2, .int .u32 K3, .slice A153 IL.length c154] _ _ rfl (by exact rfl) (by exact rfl) has179 (by kernel_rfl) rfl (by kernel_rfl) ?_)
    intro W169 hg170 bs171 hb172
    have b180 := bt hb34 hb41
    have l181 := lq hb34 ge39
    have b182 := b180.trans (hb46.mono l181)
    have b183 := bt b182 hb149
    have b184 := b183.trans (hb164.mono l181)
    have has185 := hg24.to b184
    have z186 := hb172.size
    have has187 := has185.but6 bs171 (by omega)
    have own188 := own167.but6 bs171 (by omega)
    have own189 := own168.but6 bs171 (by omega)
    have has190 := hg162.but6 bs171 (by omega)
    simp only [lay]
    refine lz (ow_st1 37 (.tmp 5) (.const (.int .i64 0)) g22 0 (.int .i64 0) _ #[.int .i64 0] _ rfl (by exact rfl) (by exact rfl) rfl (by kernel_rfl) has187 rfl rfl (by kernel_rfl) ?_)
    intro W191 hg192 bs193 hb194
    have z195 := hb194.size
    have own196 := own188.but6 bs193 (by omega)
    have own197 := own189.but6 bs193 (by omega)
    have has198 := has190.but6 bs193 (by omega)
    have has199 := hg170.but6 bs193 (by omega)
    simp only [lay]
    refine wn ?_
    refine wp_ret ?_
    try simp only [Exit.then]
    have e : msg17 m s t = (⟨K1, K2, K3, IL.take IL.length⟩, 0) := by
     unfold msg17
     rw [if_neg (by simp [*])]
     simp only [hK1, hK2, hK3, hIE, hIL]
     repeat (first | rw [if_pos (by first | assumption | omega)] | rw [if_neg (by first | assumption | omega)])
     rw [List.take_of_length_le (show IL.length ≤ 1232 from by omega), List.take_length]
    have hcs : (#[.int .u8 K1, .int .u8 K2, .int .u32 K3, .slice A153 IL.length c154] : Array Value) = (⟨K1, K2, K3, IL.take IL.length⟩ : D7).cells A153 c154 := by
     show _ = (#[.int .u8 K1, .int .u8 K2, .int .u32 K3, .slice A153 (IL.take IL.length).length c154] : Array Value)
     rw [← own_len own197]
    have h4 := has199
    rw [hcs] at h4
    have hO4 := own_norm (own197.more b146.size)
    have b200 := bt b146 hb149
    have b201 := b200.trans (hb164.mono l145)
    have l202 := lq b140 ge18
    have b203 := b201.trans (hb172.mono l202)
    have l204 := lq b141 ge25
    have b205 := b203.trans (hb194.mono l204)
    exact leave17_ok (res_cc Try.results14 rfl (h4.load (P := Try.prog) 46 Try.underlying46 rfl (by kernel_rfl)) rfl (load_errno hg192)) ⟨⟨A153, c154, by rw [e], by rw [e, ← hK1, ← hK2, ← hK3]; exact kind17_ok hR.ok _, by rw [e]; exact hO4⟩, b205⟩
   refine lv (.int .i64 1232) (by exact ex_min (r := 1232) (by exact rfl) (by exact rfl) (by exact rfl) (by first | rw [if_pos (by omega)] | rw [if_neg (by omega)])) ?_
   simp only [lay]
   have y207 := (own_byS hO151)
   have y206 := y207.to_ (P := Try.prog) 25 Try.underlying25 (by kernel_rfl) (k := 1232) (by omega)
   have hO208 := hO151.take (k := 1232) (by omega)
   refine lv (.slice A153 1232 c154) (by exact ex_slice (by exact rfl) (by exact rfl) (y206.1 _)) ?_
   simp only [lay]
   refine lv (.pointer (some ⟨g36, 3, none⟩)) (by exact xf 3 0 Try.underlying46) ?_
   simp only [lay]
   have has213 := hg44.to hb149
   refine lz (ow_st1 25 (.tmp 38) (.tmp 37) g36 3 (.slice A153 1232 c154) _ #[.int .u8 K1, .int .u8 K2, .int .u32 K3, .slice A153 1232 c154] _ rfl (by exact rfl) (by exact rfl) rfl (by kernel_rfl) has213 rfl rfl (by kernel_rfl) ?_)
   intro W209 hg210 bs211 hb212
   have z214 := hb212.size
   have own215 := hO151.but6 bs211 (by omega)
   have own216 := hO208.but6 bs211 (by omega)
   simp only [lay]
   refine wn ?_
   refine wp_sr ?_
   refine lv (.agg #[.int .u8 K1, .int .u8 K2, .int .u32 K3, .slice A153 1232 c154]) (by exact xo (hg210.load (P := Try.prog) 46 Try.underlying46 rfl (by kernel_rfl))) ?_
   simp only [lay]
   have b221 := bt hb27 hb34
   have b222 := bt b221 hb41
   have l223 := lq b221 ge39
   have b224 := b222.trans (hb46.mono l223)
   have b225 := bt b224 hb149
   have b226 := b225.trans (hb212.mono l223)
   have has227 := hg17.to b226
   refine lz (ow_st 46 (.tmp 4) (.tmp 39) g15 #[.int .u8 K1, .int .u8 K2, .int .u32 K3, .slice A153 1232 c154] _ _ rfl (by exact rfl) (by exact rfl) has227 (by kernel_rfl) rfl (by kernel_rfl) ?_)
   intro W217 hg218 bs219 hb220
   have b228 := bt hb34 hb41
   have l229 := lq hb34 ge39
   have b230 := b228.trans (hb46.mono l229)
   have b231 := bt b230 hb149
   have b232 := b231.trans (hb212.mono l229)
   have has233 := hg24.to b232
   have z234 := hb220.size
   have has235 := has233.but6 bs219 (by omega)
   have own236 := own215.but6 bs219 (by omega)
   have own237 := own216.but6 bs219 (by omega)
   have has238 := hg210.but6 bs219 (by omega)
   simp only [lay]
   refine lz (ow_st1 37 (.tmp 5) (.const (.int .i64 0)) g22 0 (.int .i64 0) _ #[.int .i64 0] _ rfl (by exact rfl) (by exact rfl) rfl (by kernel_rfl) has235 rfl rfl (by kernel_rfl) ?_)
   intro W239 hg240 bs241 hb242
   have z243 := hb242.size
   have own244 := own236.but6 bs241 (by omega)
   have own245 := own237.but6 bs241 (by omega)
   have has246 := has238.but6 bs241 (by omega)
   have has247 := hg218.but6 bs241 (by omega)
   simp only [lay]
   refine wn ?_
   refine wp_ret ?_
   try simp only [Exit.then]
   have e : msg17 m s t = (⟨K1, K2, K3, IL.take 1232⟩, 0) := by
    unfold msg17
    rw [if_neg (by simp [*])]
    simp only [hK1, hK2, hK3, hIE, hIL]
    repeat (first | rw [if_pos (by first | assumption | omega)] | rw [if_neg (by first | assumption | omega)])
   have hcs : (#[.int .u8 K1, .int .u8 K2, .int .u32 K3, .slice A153 1232 c154] : Array Value) = (⟨K1, K2, K3, IL.take 1232⟩ : D7).cells A153 c154 := by
    show _ = (#[.int .u8 K1, .int .u8 K2, .int .u32 K3, .slice A153 (IL.take 1232).length c154] : Array Value)
    rw [← own_len own245]
   have h4 := has247
   rw [hcs] at h4
   have hO4 := own_norm (own245.more b146.size)
   have b248 := bt b146 hb149
   have b249 := b248.trans (hb212.mono l145)
   have l250 := lq b140 ge18
   have b251 := b249.trans (hb220.mono l250)
   have l252 := lq b141 ge25
   have b253 := b251.trans (hb242.mono l252)
   exact leave17_ok (res_cc Try.results14 rfl (h4.load (P := Try.prog) 46 Try.underlying46 rfl (by kernel_rfl)) rfl (load_errno hg240)) ⟨⟨A153, c154, by rw [e], by rw [e, ← hK1, ← hK2, ← hK3]; exact kind17_ok hR.ok _, by rw [e]; exact hO4⟩, b253⟩
  refine lz (ow_panic [{ v := .iface 111 (.agg #[.int .i64 IE]), recovered := false }] (fun w' => W148 = w') (by exact xk Try.func33) (must17_yes IE q156 W148) ?_)
  rintro _ rfl
  have e : msg17 m s t = (zero7, IE) := by
   unfold msg17
   rw [if_neg (by simp [*])]
   simp only [hK1, hK2, hK3, hIE, hIL]
   repeat (first | rw [if_pos (by first | assumption | omega)] | rw [if_neg (by first | assumption | omega)])
  have b254 := bt hb34 hb41
  have l255 := lq hb34 ge39
  have b256 := b254.trans (hb46.mono l255)
  have b257 := bt b256 hb149
  have has258 := hg24.to b257
  have b259 := bt b146 hb149
  have l260 := lq b141 ge25
  have b261 := bt hb27 hb34
  have b262 := bt b261 hb41
  have l263 := lq b261 ge39
  have b264 := b262.trans (hb46.mono l263)
  have b265 := bt b264 hb149
  have has266 := hg17.to b265
  refine leave17_fault has258 ?_
  intro W267 hE268 hb269 hk270
  exact ⟨_, res_cc Try.results14 rfl ((hk270 _ _ (by omega) has266).load (P := Try.prog) 46 Try.underlying46 rfl (by kernel_rfl)) rfl (load_errno hE268), ⟨none, 0, by rw [e]; rfl, by rw [e]; exact zero7_ok, by rw [e]; exact OwnB.nil _ _⟩, b259.trans (hb269.mono l260)⟩
 refine lz (ow_panic [{ v := .iface 111 (.agg #[.int .i64 175]), recovered := false }] (fun w' => Below W23.heap.size W23 w') (by exact xk Try.func50) ((kind17_any m hR.ok _ _ W23).mono fun e w' h => ⟨h.1.2 (eq_false_of_ne_true q32), h.2⟩) ?_)
 rintro W271 hb272
 have z273 := hb272.size
 have e : msg17 m s t = (zero7, 175) := by
  unfold msg17
  rw [if_pos (by first | exact eq_false_of_ne_true (by assumption) | assumption)]
 have has274 := hg24.to hb272
 have b275 := bt hb6 hb13
 have b276 := bt b275 hb20
 have b277 := bt b276 hb27
 have b278 := bt b277 hb272
 have l279 := lq b276 ge25
 have b280 := bt hb27 hb272
 have has281 := hg17.to b280
 refine leave17_fault has274 ?_
 intro W282 hE283 hb284 hk285
 exact ⟨_, res_cc Try.results14 rfl ((hk285 _ _ (by omega) has281).load (P := Try.prog) 46 Try.underlying46 rfl (by kernel_rfl)) rfl (load_errno hE283), ⟨none, 0, by rw [e]; rfl, by rw [e]; exact zero7_ok, by rw [e]; exact OwnB.nil _ _⟩, b278.trans (hb284.mono l279)⟩
end Go.Proofs.Ytijnifbpbgckgaa
