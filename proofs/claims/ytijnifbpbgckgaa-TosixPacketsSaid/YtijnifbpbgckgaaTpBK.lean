/-
  Lemmas and walks for the row of TosixPackets (part 37 of 45).
-/
import Derived.Test.YtijnifbpbgckgaaTpAF
import Derived.Test.YtijnifbpbgckgaaTpBJ
set_option linter.unusedVariables false
set_option linter.unusedSimpArgs false
namespace Go.Proofs.Ytijnifbpbgckgaa
open Go.RowKit Go.Shelf
attribute [local irreducible] wpList Code.wp Oper.wp wpOp wpAnyH

theorem res_tt {P : Program} {fn : Func} {tmps : Array Value} {a b : Nat} {v u : Value} {w : World} (hr : fn.results = #[.tmp a, .tmp b]) (hx : tmps.getD a undef = v) (hb : tmps.getD b undef = u) : (results fn tmps).run P w = .ok (.tuple #[v, u]) w := by
 rw [Array.getD_eq_getD_getElem?] at hx hb
 simp [results, hr, hx, hb]
/-- a row of its own and a number -/
def TwoR (r : List Int × Int) (base : Nat) (w' : World) (e : Ending) : Prop := ∃ v, e = .returned (.tuple #[v, .int .i64 r.2]) ∧ OwnB w' base v r.1
theorem TwoR.ok {r : List Int × Int} {base : Nat} {w' : World} {v : Value} {l : List Int} {k : Int} (h : r = (l, k)) (hO : OwnB w' base v l) : TwoR r base w' (.returned (.tuple #[v, .int .i64 k])) := by
 subst h
 exact ⟨v, rfl, hO⟩
def fresh17 (l s t : List Int) : List Int × Int := if two17 l 4 ≠ l.length then ([], 173) else (put17 l 6 (fix17 true (65535 - sumw (pse6 s t l.length 17 ++ l))), 0)

set_option maxRecDepth 100000 in
set_option maxHeartbeats 4000000 in
theorem rfresh_any (s t : List Int) (hE : E6ok s t) (A : Option Addr) (n c : Nat) (l : List Int) (w : World) (y : By w.heap.size w A n c l) (h8 : 8 ≤ n) (hn : n ≤ 65535) :
  Calls Try.prog 81 #[.agg (ends6 s t), .slice A n c] w fun e w' => TwoR (fresh17 l s t) w.heap.size w' e ∧ Below w.heap.size w w' := by
 have sL := hE.sL
 have tL := hE.tL
 have yl := y.len
 go_enter Try.func81, Try.ntmps81
 refine wp_sr ?_
 refine lz (ow_box 31 (.tmp 0) _ rfl rfl ?_)
 intro g1 W2 hg3 ge4 sz5 hb6
 have z7 := hb6.size
 simp only [lay]
 refine lv (.slice none 0 0) (by exact xa) ?_
 simp only [lay]
 refine lv (.int .i64 0) (by exact xa) ?_
 simp only [lay]
 refine wn ?_
 refine wp_seq ?_
 refine wp_seq ?_
 refine rg_drawn W2.heap.size (by kernel_rfl) (Nat.le_refl _) ?_
 intro W8 hb9 hs10 hS11
 have z12 := hb9.size
 refine te 0 (.slice A n c) hS11 rfl (by intro _ _; exact xm) ?_
 simp only [lay]
 obtain ⟨b13, o14, hA15⟩ := y.form (k := 4) (by omega)
 refine te 1 (.pointer (some ⟨b13, o14 + 4, none⟩)) hS11 rfl (by intro _ _; exact xi 4 Try.underlying25 hA15) ?_
 simp only [lay]
 have by16 := y.to hb6
 refine te 2 (.int .u8 (l.getD 4 0)) hS11 rfl (by intro _ h; exact xc Try.underlying5 ((by16.to h).atE (k := 4) hA15 (by omega))) ?_
 simp only [lay]
 refine te 3 (.int .i64 (l.getD 4 0)) hS11 rfl (by intro _ _; exact xv (conv_i64 5 3 .u8 (l.getD 4 0) (by kernel_rfl) Try.underlying3 (in_rng6 (getD_byte y.rng 4)) _)) ?_
 simp only [lay]
 refine te 4 (.int .i64 ((l.getD 4 0) * 256)) hS11 rfl (by intro _ _; exact xb (b_mul _ ((l.getD 4 0) * 256) rfl (by have := (getD_byte y.rng 4); omega) _)) ?_
 simp only [lay]
 refine te 5 (.slice A n c) hS11 rfl (by intro _ _; exact xm) ?_
 simp only [lay]
 refine te 6 (.pointer (some ⟨b13, o14 + 5, none⟩)) hS11 rfl (by intro _ _; exact xi 5 Try.underlying25 hA15) ?_
 simp only [lay]
 refine te 7 (.int .u8 (l.getD 5 0)) hS11 rfl (by intro _ h; exact xc Try.underlying5 ((by16.to h).atE (k := 5) hA15 (by omega))) ?_
 simp only [lay]
 refine te 8 (.int .i64 (l.getD 5 0)) hS11 rfl (by intro _ _; exact xv (conv_i64 5 3 .u8 (l.getD 5 0) (by kernel_rfl) Try.underlying3 (in_rng6 (getD_byte y.rng 5)) _)) ?_
 simp only [lay]
 refine te 9 (.int .i64 ((l.getD 4 0) * 256 + l.getD 5 0)) hS11 rfl (by intro _ _; exact xb (b_add _ ((l.getD 4 0) * 256 + l.getD 5 0) rfl (by have := (getD_byte y.rng 4); have := (getD_byte y.rng 5); omega) _)) ?_
 simp only [lay]
 refine te 10 (.slice A n c) hS11 rfl (by intro _ _; exact xm) ?_
 simp only [lay]
 refine te 11 (.int .i64 (n : Int)) hS11 rfl (by intro _ _; exact xz Try.underlying25) ?_
 simp only [lay]
 by_cases q17 : (l.getD 4 0) * 256 + l.getD 5 0 = (n : Int)
 case pos =>
  refine te 12 (.bool false) hS11 rfl (by intro _ _; exact neq_int_eq (by exact rfl) (by exact rfl) (by exact rfl) (by first | assumption | omega)) ?_
  simp only [lay]
  refine wpAnyH_done (by kernel_rfl) ?_ _
  change Code.wp _ _ _ _ _
  refine cF9 ?_
  refine wp_skip ?_
  change Code.wp _ _ _ _ _
  refine wp_sr ?_
  refine lz (ow_build0 rfl Try.underlying25 (by kernel_rfl) ?_)
  intro g18 W19 hg20 ge21 sz22 hb23
  have z24 := hb23.size
  have hO25 : OwnB W19 W8.heap.size (.slice (some ⟨g18, 0, none⟩) 0 0) [] := OwnB.blk (l := []) hg20 (Nat.le_of_eq ge21.symm) rfl InB.nil (by simp)
  simp only [lay]
  refine lv (.slice A n c) (by exact xm) ?_
  simp only [lay]
  have b31 := bt hb6 hb9
  have b32 := bt b31 hb23
  have by33 := y.to b32
  refine lz (ow_app (.tmp 23) (.tmp 24) 25 rfl Try.underlying25 info8 _ _ [] rfl hO25 _ _ _ _ l rfl by33 (by simp only [List.length_nil]; omega) hb23.size ?_)
  intro v30 W26 hO27 hb28 hgr29
  have z34 := hb28.size
  have hO35 : OwnB W26 W8.heap.size v30 l := hO27
  obtain ⟨A36, c37, rfl, y38⟩ := hO35.by_
  simp only [lay]
  refine lv (.slice A36 l.length c37) (by exact xa) ?_
  simp only [lay]
  refine wn ?_
  refine wp_sr ?_
  refine lv (.pointer (some ⟨g1, 0, none⟩)) (by exact xf 0 15 Try.underlying31) ?_
  simp only [lay]
  have b39 := bt hb9 hb23
  have l40 := Nat.le_trans hb9.size (Nat.le_refl _)
  have b41 := b39.trans (hb28.mono l40)
  have has42 := hg3.to b41
  refine lv (.agg (a16 s)) (by exact ex_loadAt (by exact rfl) (by exact rfl) (has42.loadIn (P := Try.prog) 0 (w16 s) (by kernel_rfl) 29 Try.underlying29 rfl (by kernel_rfl))) ?_
  simp only [lay]
  refine lv (.pointer (some ⟨g1, 16, none⟩)) (by exact xf 16 15 Try.underlying31) ?_
  simp only [lay]
  refine lv (.agg (a16 t)) (by exact ex_loadAt (by exact rfl) (by exact rfl) (has42.loadIn (P := Try.prog) 16 (w16 t) (by kernel_rfl) 29 Try.underlying29 rfl (by kernel_rfl))) ?_
  simp only [lay]
  refine lv (.slice A36 l.length c37) (by exact xm) ?_
  simp only [lay]
  refine lv (.int .i64 (l.length : Int)) (by exact xz Try.underlying25) ?_
  simp only [lay]
  refine lz (ow_call (fun v w' => (∃ u, v = .tuple #[u, .int .i64 0] ∧ OwnB w' W26.heap.size u (pse6 s t (l.length : Int) 17)) ∧ Below W26.heap.size W26 w') (by exact xk Try.func59) (rpseudo6_l hE.sL hE.tL hE.s hE.t (by omega) (by omega) W26) ?_)
  rintro _ W43 ⟨⟨u45, rfl, hO46⟩, hb44⟩
  have z47 := hb44.size
  obtain ⟨A48, c49, rfl, y50⟩ := hO46.by_
  simp only [lay]
  refine lv (.tuple #[.slice A48 ((pse6 s t (l.length : Int) 17).length) c49, .int .i64 0]) (by exact xm) ?_
  simp only [lay]
  refine lv (.slice A48 ((pse6 s t (l.length : Int) 17).length) c49) (by exact xe) ?_
  simp only [lay]
  refine lv (.int .i64 0) (by exact xe) ?_
  simp only [lay]
  refine lv (.slice A48 ((pse6 s t (l.length : Int) 17).length) c49) (by exact xa) ?_
  simp only [lay]
  refine lv (.int .i64 0) (by exact xa) ?_
  simp only [lay]
  refine wn ?_
  refine wp_sr ?_
  refine lv (.slice A48 ((pse6 s t (l.length : Int) 17).length) c49) (by exact xm) ?_
  simp only [lay]
  refine lv (.slice A36 l.length c37) (by exact xm) ?_
  simp only [lay]
  refine lz (ow_build [.slice A48 ((pse6 s t (l.length : Int) 17).length) c49, .slice A36 l.length c37] rfl Try.underlying106 (by kernel_rfl) (by kernel_rfl) rfl (by decide) (by decide) (by first | rfl | (simp only [List.map_toArray, List.map_cons, List.map_nil] <;> rfl)) (by simp [Value.cells]) ?_)
  intro g51 W52 hg53 ge54 sz55 hb56
  have z57 := hb56.size
  simp only [lay]
  have own58 := hO46.to hb56
  have b59 := bt hb44 hb56
  have own60 := hO35.to b59
  refine lz (ow_call (fun v w' => (∃ q, v = .int .u16 q ∧ q = 65535 - sumw (pse6 s t (l.length : Int) 17 ++ l) ∧ 0 ≤ q ∧ q < 65536) ∧ Below W52.heap.size W52 w') (by exact xk Try.func103) (rof2 hg53 (own_byS own58) (own_byS own60) (by first | omega | (simp only [pse6, List.length_append, List.length_cons, List.length_nil, sL, tL]; omega))) ?_)
  rintro _ W61 ⟨⟨q63, rfl, hq64, q065, q166⟩, hb62⟩
  have z67 := hb62.size
  simp only [lay]
  refine lv (.int .u16 q63) (by exact xa) ?_
  simp only [lay]
  refine wn ?_
  refine wp_seq ?_
  refine wp_sr ?_
  refine lv (.int .u16 q63) (by exact xm) ?_
  simp only [lay]
  by_cases q68 : q63 = 0
  case pos =>
   refine lv (.bool true) (by exact yq) ?_
   simp only [lay]
   refine wn ?_
   refine cT9 ?_
   refine wp_region_lit ?_
   refine lv (.int .u16 65535) (by exact xa) ?_
   simp only [lay]
   refine wn ?_
   refine wp_sr ?_
   refine lv (.slice A36 l.length c37) (by exact xm) ?_
   simp only [lay]
   refine lv (.slice A36 l.length c37) (by exact xm) ?_
   simp only [lay]
   refine lv (.int .u16 65535) (by exact xm) ?_
   simp only [lay]
   refine lv (.int .u16 (65535 / 256)) (by exact xb (w_shr16 _ _ _)) ?_
   simp only [lay]
   refine lv (.int .u8 (65535 / 256)) (by exact xv (conv_u8' 22 5 .u16 (65535 / 256) (by kernel_rfl) Try.underlying5 (by omega) _)) ?_
   simp only [lay]
   refine lv (.int .u16 65535) (by exact xm) ?_
   simp only [lay]
   refine lv (.int .u8 (65535 % 256)) (by exact xv (conv_u8 22 5 .u16 65535 (by kernel_rfl) Try.underlying5 _)) ?_
   simp only [lay]
   obtain ⟨g69, rfl, h70, h71⟩ := own_form hO35 (by first | omega | simp [D4.src])
   refine lv (.pointer (some ⟨g69, 0 + 6, none⟩)) (by exact ex_index (k := 6) (by exact rfl) Try.underlying25 (by kernel_rfl) (by exact rfl) (by exact rfl) (show 6 < l.length by omega)) ?_
   simp only [lay]
   have b76 := bt b59 hb62
   have own77 := hO35.to b76
   refine lz (ow_stB 5 (.tmp 49) (.tmp 46) g69 _ W8.heap.size l.length c37 (65535 / 256) _ rfl (by exact rfl) (by exact rfl) (by kernel_rfl) own77 (by omega) (own_len own77) (by omega) ?_)
   intro W72 hO73 bs74 hb75
   have b78 := bt hb56 hb62
   have own79 := hO46.to b78
   have has80 := hg53.to hb62
   have z81 := hb75.size
   have own82 := own79.but6 bs74 (by omega)
   have has83 := has80.but6 bs74 (by omega)
   simp only [lay]
   refine lv (.pointer (some ⟨g69, 0 + 7, none⟩)) (by exact ex_index (k := 7) (by exact rfl) Try.underlying25 (by kernel_rfl) (by exact rfl) (by exact rfl) (show 7 < l.length by omega)) ?_
   simp only [lay]
   refine lz (ow_stB 5 (.tmp 50) (.tmp 48) g69 _ W8.heap.size l.length c37 (65535 % 256) _ rfl (by exact rfl) (by exact rfl) (by kernel_rfl) hO73 (by omega) (own_len hO73) (by omega) ?_)
   intro W84 hO85 bs86 hb87
   have z88 := hb87.size
   have own89 := own82.but6 bs86 (by omega)
   have has90 := has83.but6 bs86 (by omega)
   simp only [lay]
   refine wn ?_
   refine wp_sr ?_
   refine lv (.slice (some ⟨g69, 0, none⟩) l.length c37) (by exact xm) ?_
   simp only [lay]
   refine lv (.slice (some ⟨g69, 0, none⟩) l.length c37) (by exact xa) ?_
   simp only [lay]
   refine lv (.int .i64 0) (by exact xa) ?_
   simp only [lay]
   refine wn ?_
   refine wp_ret ?_
   try simp only [Exit.then]
   have hf : fix17 true q63 = 65535 := by unfold fix17; rw [if_pos ⟨by assumption, rfl⟩]
   have e : fresh17 l s t = ((l.set (0 + 6) (65535 / 256)).set (0 + 7) (65535 % 256), 0) := by
    unfold fresh17 two17
    try simp only [Nat.reduceAdd]
    rw [if_neg (by omega), ← hq64, hf, put17]
   have l91 := Nat.le_trans b31.size (Nat.le_refl _)
   have b92 := b32.trans (hb28.mono l91)
   have b93 := bt b92 hb44
   have b94 := bt b93 hb56
   have b95 := bt b94 hb62
   have l96 := Nat.le_trans b31.size h70
   have b97 := b95.trans (hb75.mono l96)
   have b98 := b97.trans (hb87.mono l96)
   exact bodyPost_ret (res_tt Try.results81 rfl rfl) rfl ⟨TwoR.ok e (hO85.more b31.size), b98⟩
  refine lv (.bool false) (by exact yqn) ?_
  simp only [lay]
  refine wn ?_
  refine cF9 ?_
  refine wp_skip ?_
  change Code.wp _ _ _ _ _
  refine wp_sr ?_
  refine lv (.slice A36 l.length c37) (by exact xm) ?_
  simp only [lay]
  refine lv (.slice A36 l.length c37) (by exact xm) ?_
  simp only [lay]
  refine lv (.int .u16 q63) (by exact xm) ?_
  simp only [lay]
  refine lv (.int .u16 (q63 / 256)) (by exact xb (w_shr16 _ _ _)) ?_
  simp only [lay]
  refine lv (.int .u8 (q63 / 256)) (by exact xv (conv_u8' 22 5 .u16 (q63 / 256) (by kernel_rfl) Try.underlying5 (by omega) _)) ?_
  simp only [lay]
  refine lv (.int .u16 q63) (by exact xm) ?_
  simp only [lay]
  refine lv (.int .u8 (q63 % 256)) (by exact xv (conv_u8 22 5 .u16 q63 (by kernel_rfl) Try.underlying5 _)) ?_
  simp only [lay]
  obtain ⟨g99, rfl, h100, h101⟩ := own_form hO35 (by first | omega | simp [D4.src])
  refine lv (.pointer (some ⟨g99, 0 + 6, none⟩)) (by exact ex_index (k := 6) (by exact rfl) Try.underlying25 (by kernel_rfl) (by exact rfl) (by exact rfl) (show 6 < l.length by omega)) ?_
  simp only [lay]
  have b106 := bt b59 hb62
  have own107 := hO35.to b106
  refine lz (ow_stB 5 (.tmp 49) (.tmp 46) g99 _ W8.heap.size l.length c37 (q63 / 256) _ rfl (by exact rfl) (by exact rfl) (by kernel_rfl) own107 (by omega) (own_len own107) (by omega) ?_)
  intro W102 hO103 bs104 hb105
  have b108 := bt hb56 hb62
  have own109 := hO46.to b108
  have has110 := hg53.to hb62
  have z111 := hb105.size
  have own112 := own109.but6 bs104 (by omega)
  have has113 := has110.but6 bs104 (by omega)
  simp only [lay]
  refine lv (.pointer (some ⟨g99, 0 + 7, none⟩)) (by exact ex_index (k := 7) (by exact rfl) Try.underlying25 (by kernel_rfl) (by exact rfl) (by exact rfl) (show 7 < l.length by omega)) ?_
  simp only [lay]
  refine lz (ow_stB 5 (.tmp 50) (.tmp 48) g99 _ W8.heap.size l.length c37 (q63 % 256) _ rfl (by exact rfl) (by exact rfl) (by kernel_rfl) hO103 (by omega) (own_len hO103) (by omega) ?_)
  intro W114 hO115 bs116 hb117
  have z118 := hb117.size
  have own119 := own112.but6 bs116 (by omega)
  have has120 := has113.but6 bs116 (by omega)
  simp only [lay]
  refine wn ?_
  refine wp_sr ?_
  refine lv (.slice (some ⟨g99, 0, none⟩) l.length c37) (by exact xm) ?_
  simp only [lay]
  refine lv (.slice (some ⟨g99, 0, none⟩) l.length c37) (by exact xa) ?_
  simp only [lay]
  refine lv (.int .i64 0) (by exact xa) ?_
  simp only [lay]
  refine wn ?_
  refine wp_ret ?_
  try simp only [Exit.then]
  have hf : fix17 true q63 = q63 := by unfold fix17; rw [if_neg (fun h => absurd h.1 (by assumption))]
  have e : fresh17 l s t = ((l.set (0 + 6) (q63 / 256)).set (0 + 7) (q63 % 256), 0) := by
   unfold fresh17 two17
   try simp only [Nat.reduceAdd]
   rw [if_neg (by omega), ← hq64, hf, put17]
  have l121 := Nat.le_trans b31.size (Nat.le_refl _)
  have b122 := b32.trans (hb28.mono l121)
  have b123 := bt b122 hb44
  have b124 := bt b123 hb56
  have b125 := bt b124 hb62
  have l126 := Nat.le_trans b31.size h100
  have b127 := b125.trans (hb105.mono l126)
  have b128 := b127.trans (hb117.mono l126)
  exact bodyPost_ret (res_tt Try.results81 rfl rfl) rfl ⟨TwoR.ok e (hO115.more b31.size), b128⟩
 refine te 12 (.bool true) hS11 rfl (by intro _ _; exact neq_int_ne (by exact rfl) (by exact rfl) (by exact rfl) (by first | assumption | omega)) ?_
 simp only [lay]
 refine wpAnyH_done (by kernel_rfl) ?_ _
 change Code.wp _ _ _ _ _
 refine cT9 ?_
 refine wp_sr ?_
 refine lv (.slice none 0 0) (by exact xa) ?_
 simp only [lay]
 refine lv (.int .i64 173) (by exact xa) ?_
 simp only [lay]
 refine wn ?_
 refine wp_ret ?_
 try simp only [Exit.then]
 have e : fresh17 l s t = ([], 173) := by
  unfold fresh17 two17
  try simp only [Nat.reduceAdd]
  rw [if_pos (by omega)]
 have b129 := bt hb6 hb9
 exact bodyPost_ret (res_tt Try.results81 rfl rfl) rfl ⟨TwoR.ok e (OwnB.nil _ _), b129⟩
set_option maxRecDepth 100000 in
set_option maxHeartbeats 4000000 in
theorem rbody17_any (d : D4) (p : W4) (s t : List Int) (hE : E6ok s t) (w : World) (hR : Rd4 w.heap.size w d p) (hm : d.bl.length ≤ 65535) :
  Calls Try.prog 47 #[.agg (d.cells p), .agg (ends6 s t)] w fun e w' => TwoR (body17 d s t) w.heap.size w' e ∧ Below w.heap.size w w' := by
 have sL := hE.sL
 have tL := hE.tL
 have yo := hR.opt
 have yb := hR.body
 go_enter Try.func47, Try.ntmps47
 refine wp_sr ?_
 refine lz (ow_box 27 (.tmp 0) _ rfl rfl ?_)
 intro g1 W2 hg3 ge4 sz5 hb6
 have z7 := hb6.size
 simp only [lay]
 refine lz (ow_box 31 (.tmp 1) _ rfl rfl ?_)
 intro g8 W9 hg10 ge11 sz12 hb13
 have z14 := hb13.size
 simp only [lay]
 refine lv (.slice none 0 0) (by exact xa) ?_
 simp only [lay]
 refine lv (.int .i64 0) (by exact xa) ?_
 simp only [lay]
 refine wn ?_
 refine wp_seq ?_
 refine wp_sr ?_
 refine lv (.pointer (some ⟨g1, 4, none⟩)) (by exact xf 4 0 Try.underlying27) ?_
 simp only [lay]
 have has15 := hg3.to hb13
 refine lv (.int .i64 d.off) (by exact xc Try.underlying3 (has15.cell 4 rfl)) ?_
 simp only [lay]
 by_cases q16 : d.off > 0
 case pos =>
  refine lv (.bool true) (by exact ex_gtr (by exact rfl) (by exact rfl) (by exact rfl) (decide_eq_true (by first | assumption | omega | decide))) ?_
  simp only [lay]
  refine lv (.bool true) (by exact xm) ?_
  simp only [lay]
  refine lzn ?_
  simp only [lay]
  refine lzn ?_
  simp only [lay]
  refine lzn ?_
  simp only [lay]
  refine lzn ?_
  simp only [lay]
  refine lzn ?_
  simp only [lay]
  refine lzn ?_
  simp only [lay]
  refine lzn ?_
  simp only [lay]
  refine lzn ?_
  simp only [lay]
  refine lv (.bool true) (by exact xp (b := true)) ?_
  simp only [lay]
  refine wn ?_
  refine cT9 ?_
  refine wp_sr ?_
  refine lz (ow_build0 rfl Try.underlying25 (by kernel_rfl) ?_)
  intro g17 W18 hg19 ge20 sz21 hb22
  have z23 := hb22.size
  have hO24 : OwnB W18 W9.heap.size (.slice (some ⟨g17, 0, none⟩) 0 0) [] := OwnB.blk (l := []) hg19 (Nat.le_of_eq ge20.symm) rfl InB.nil (by simp)
  simp only [lay]
  refine lv (.pointer (some ⟨g1, 16, none⟩)) (by exact xf 16 0 Try.underlying27) ?_
  simp only [lay]
  have b25 := bt hb13 hb22
  have has26 := hg3.to b25
  refine lv (.slice p.bA d.bl.length p.bc) (by exact xc Try.underlying25 (has26.cell 16 rfl)) ?_
  simp only [lay]
  have b32 := bt hb6 hb13
  have b33 := bt b32 hb22
  have by34 := yb.to b33
  refine lz (ow_app (.tmp 19) (.tmp 21) 25 rfl Try.underlying25 info8 _ _ [] rfl hO24 _ _ _ _ d.bl rfl by34 (by simp only [List.length_nil]; omega) hb22.size ?_)
  intro v31 W27 hO28 hb29 hgr30
  have z35 := hb29.size
  have hO36 : OwnB W27 W9.heap.size v31 d.bl := hO28
  obtain ⟨A37, c38, rfl, y39⟩ := hO36.by_
  simp only [lay]
  refine lv (.slice A37 d.bl.length c38) (by exact xa) ?_
  simp only [lay]
  refine lv (.int .i64 0) (by exact xa) ?_
  simp only [lay]
  refine wn ?_
  refine wp_ret ?_
  try simp only [Exit.then]
  have e : body17 d s t = (d.bl, 0) := by
   unfold body17 two17
   try simp only [Nat.reduceAdd]
   repeat (first | rw [if_pos (by first | assumption | omega | exact ne_true_of_eq_false (by assumption))] | rw [if_neg (by first | assumption | omega | exact ne_true_of_eq_false (by assumption))])
  have l40 := Nat.le_trans b32.size (Nat.le_refl _)
  have b41 := b33.trans (hb29.mono l40)
  exact bodyPost_ret (res_tt Try.results47 rfl rfl) rfl ⟨TwoR.ok e (hO36.more b32.size), b41⟩
 refine lv (.bool false) (by exact ex_gtr (by exact rfl) (by exact rfl) (by exact rfl) (decide_eq_false (by first | assumption | omega | decide))) ?_
 simp only [lay]
 refine lv (.bool false) (by exact xm) ?_
 simp only [lay]
 refine lv (.pointer (some ⟨g1, 6, none⟩)) (by exact xf 6 0 Try.underlying27) ?_
 simp only [lay]
 refine lv (.int .u8 d.proto) (by exact xc Try.underlying5 (has15.cell 6 rfl)) ?_
 simp only [lay]
 by_cases q42 : d.proto = 6
 case pos =>
  refine lv (.bool false) (by exact neq_int_eq (by exact rfl) (by exact rfl) (by exact rfl) (by first | assumption | omega)) ?_
  simp only [lay]
  refine lv (.bool false) (by exact xm) ?_
  simp only [lay]
  refine lzn ?_
  simp only [lay]
  refine lzn ?_
  simp only [lay]
  refine lzn ?_
  simp only [lay]
  refine lv (.bool false) (by exact xp (b := false)) ?_
  simp only [lay]
  refine lv (.bool false) (by exact xp (b := false)) ?_
  simp only [lay]
  refine wn ?_
  refine cF9 ?_
  refine wp_skip ?_
  change Code.wp _ _ _ _ _
  refine wp_seq ?_
  refine wp_sr ?_
  refine lv (.pointer (some ⟨g1, 6, none⟩)) (by exact xf 6 0 Try.underlying27) ?_
  simp only [lay]
  refine lv (.int .u8 d.proto) (by exact xc Try.underlying5 (has15.cell 6 rfl)) ?_
  simp only [lay]
  refine lv (.bool true) (by exact yq) ?_
  simp only [lay]
  refine wn ?_
  refine cT9 ?_
  refine wp_seq ?_
  refine wp_sr ?_
  refine lv (.pointer (some ⟨g1, 16, none⟩)) (by exact xf 16 0 Try.underlying27) ?_
  simp only [lay]
  refine lv (.slice p.bA d.bl.length p.bc) (by exact xc Try.underlying25 (has15.cell 16 rfl)) ?_
  simp only [lay]
  refine lv (.int .i64 (d.bl.length : Int)) (by exact xz Try.underlying25) ?_
  simp only [lay]
  by_cases q44 : (d.bl.length : Int) < 20
  case pos =>
   refine lv (.bool true) (by exact ex_lss (by exact rfl) (by exact rfl) (by exact rfl) (decide_eq_true (by first | assumption | omega | decide))) ?_
   simp only [lay]
   refine wn ?_
   refine cT9 ?_
   refine wp_sr ?_
   refine lv (.slice none 0 0) (by exact xa) ?_
   simp only [lay]
   refine lv (.int .i64 173) (by exact xa) ?_
   simp only [lay]
   refine wn ?_
   refine wp_ret ?_
   try simp only [Exit.then]
   have e : body17 d s t = ([], 173) := by
    unfold body17 two17
    try simp only [Nat.reduceAdd]
    repeat (first | rw [if_pos (by first | assumption | omega | exact ne_true_of_eq_false (by assumption))] | rw [if_neg (by first | assumption | omega | exact ne_true_of_eq_false (by assumption))])
   have b45 := bt hb6 hb13
   exact bodyPost_ret (res_tt Try.results47 rfl rfl) rfl ⟨TwoR.ok e (OwnB.nil _ _), b45⟩
  refine lv (.bool false) (by exact ex_lss (by exact rfl) (by exact rfl) (by exact rfl) (decide_eq_false (by first | assumption | omega | decide))) ?_
  simp only [lay]
  refine wn ?_
  refine cF9 ?_
  refine wp_skip ?_
  change Code.wp _ _ _ _ _
  refine wp_sr ?_
  refine lv (.agg (d.cells p)) (by exact xo (has15.load (P := Try.prog) 27 Try.underlying27 rfl (by kernel_rfl))) ?_
  simp only [lay]
  refine lv (.agg (ends6 s t)) (by exact xo (hg10.load (P := Try.prog) 31 Try.underlying31 rfl (by kernel_rfl))) ?_
  simp only [lay]
  refine lv (.pointer (some ⟨g1, 16, none⟩)) (by exact xf 16 0 Try.underlying27) ?_
  simp only [lay]
  refine lv (.slice p.bA d.bl.length p.bc) (by exact xc Try.underlying25 (has15.cell 16 rfl)) ?_
  simp only [lay]
  have b46 := bt hb6 hb13
  have by47 := yb.to b46
  refine lz (ow_call (fun v w' => OwnB w' W9.heap.size v (carry17 (d.proto == 17) (from17 d) (s ++ t) d.bl 16) ∧ Below W9.heap.size W9 w') (by exact xk Try.func80) (rcarried_any d hR.ok p s t hE _ _ _ d.bl 16 W9 by47 (by omega) (by omega)) ?_)
  rintro v50 W48 ⟨hO51, hb49⟩
  have z52 := hb49.size
  obtain ⟨A53, c54, rfl, y55⟩ := hO51.by_
  simp only [lay]
  refine lv (.slice A53 ((carry17 (d.proto == 17) (from17 d) (s ++ t) d.bl 16).length) c54) (by exact xa) ?_
  simp only [lay]
  refine lv (.int .i64 0) (by exact xa) ?_
  simp only [lay]
  refine wn ?_
  refine wp_ret ?_
  try simp only [Exit.then]
  have hu : (d.proto == 17) = false := by rw [show d.proto = 6 from by assumption]; rfl
  have e : body17 d s t = (carry17 (d.proto == 17) (from17 d) (s ++ t) d.bl 16, 0) := by
   unfold body17 two17
   try simp only [Nat.reduceAdd]
   repeat (first | rw [if_pos (by first | assumption | omega | exact ne_true_of_eq_false (by assumption))] | rw [if_neg (by first | assumption | omega | exact ne_true_of_eq_false (by assumption))])
   rw [hu]
  have b56 := bt b46 hb49
  exact bodyPost_ret (res_tt Try.results47 rfl rfl) rfl ⟨TwoR.ok e (hO51.more b46.size), b56⟩
 refine lv (.bool true) (by exact neq_int_ne (by exact rfl) (by exact rfl) (by exact rfl) (by first | assumption | omega)) ?_
 simp only [lay]
 refine lv (.bool true) (by exact xm) ?_
 simp only [lay]
 refine lv (.pointer (some ⟨g1, 6, none⟩)) (by exact xf 6 0 Try.underlying27) ?_
 simp only [lay]
 refine lv (.int .u8 d.proto) (by exact xc Try.underlying5 (has15.cell 6 rfl)) ?_
 simp only [lay]
 by_cases q57 : d.proto = 17
 case pos =>
  refine lv (.bool false) (by exact neq_int_eq (by exact rfl) (by exact rfl) (by exact rfl) (by first | assumption | omega)) ?_
  simp only [lay]
  refine lv (.bool false) (by exact xp (b := true)) ?_
  simp only [lay]
  refine lv (.bool false) (by exact xp (b := false)) ?_
  simp only [lay]
  refine wn ?_
  refine cF9 ?_
  refine wp_skip ?_
  change Code.wp _ _ _ _ _
  refine wp_seq ?_
  refine wp_sr ?_
  refine lv (.pointer (some ⟨g1, 6, none⟩)) (by exact xf 6 0 Try.underlying27) ?_
  simp only [lay]
  refine lv (.int .u8 d.proto) (by exact xc Try.underlying5 (has15.cell 6 rfl)) ?_
  simp only [lay]
  refine lv (.bool false) (by exact yqn) ?_
  simp only [lay]
  refine wn ?_
  refine cF9 ?_
  refine wp_skip ?_
  change Code.wp _ _ _ _ _
  refine wp_seq ?_
  refine wp_sr ?_
  refine lv (.pointer (some ⟨g1, 16, none⟩)) (by exact xf 16 0 Try.underlying27) ?_
  simp only [lay]
  refine lv (.slice p.bA d.bl.length p.bc) (by exact xc Try.underlying25 (has15.cell 16 rfl)) ?_
  simp only [lay]
  refine lv (.int .i64 (d.bl.length : Int)) (by exact xz Try.underlying25) ?_
  simp only [lay]
  by_cases q59 : (d.bl.length : Int) < 8
  case pos =>
   refine lv (.bool true) (by exact ex_lss (by exact rfl) (by exact rfl) (by exact rfl) (decide_eq_true (by first | assumption | omega | decide))) ?_
   simp only [lay]
   refine wn ?_
   refine cT9 ?_
   refine wp_sr ?_
   refine lv (.slice none 0 0) (by exact xa) ?_
   simp only [lay]
   refine lv (.int .i64 173) (by exact xa) ?_
   simp only [lay]
   refine wn ?_
   refine wp_ret ?_
   try simp only [Exit.then]
   have e : body17 d s t = ([], 173) := by
    unfold body17 two17
    try simp only [Nat.reduceAdd]
    repeat (first | rw [if_pos (by first | assumption | omega | exact ne_true_of_eq_false (by assumption))] | rw [if_neg (by first | assumption | omega | exact ne_true_of_eq_false (by assumption))])
   have b60 := bt hb6 hb13
   exact bodyPost_ret (res_tt Try.results47 rfl rfl) rfl ⟨TwoR.ok e (OwnB.nil _ _), b60⟩
  refine lv (.bool false) (by exact ex_lss (by exact rfl) (by exact rfl) (by exact rfl) (decide_eq_false (by first | assumption | omega | decide))) ?_
  simp only [lay]
  refine wn ?_
  refine cF9 ?_
  refine wp_skip ?_
  change Code.wp _ _ _ _ _
  refine wp_seq ?_
  refine wp_sr ?_
  refine lv (.pointer (some ⟨g1, 16, none⟩)) (by exact xf 16 0 Try.underlying27) ?_
  simp only [lay]
  refine lv (.slice p.bA d.bl.length p.bc) (by exact xc Try.underlying25 (has15.cell 16 rfl)) ?_
  simp only [lay]
  obtain ⟨b61, o62, hA63⟩ := yb.form (k := 6) (by omega)
  refine lv (.pointer (some ⟨b61, o62 + 6, none⟩)) (by exact xi 6 Try.underlying25 hA63) ?_
  simp only [lay]
  have b64 := bt hb6 hb13
  have by65 := yb.to b64
  refine lv (.int .u8 (d.bl.getD 6 0)) (by exact xc Try.underlying5 (by65.atE (k := 6) hA63 (by omega))) ?_
  simp only [lay]
  by_cases q66 : d.bl.getD 6 0 = 0
  case pos =>
   refine lv (.bool true) (by exact yq) ?_
   simp only [lay]
   refine lv (.bool true) (by exact xm) ?_
   simp only [lay]
   refine lv (.pointer (some ⟨g1, 16, none⟩)) (by exact xf 16 0 Try.underlying27) ?_
   simp only [lay]
   refine lv (.slice p.bA d.bl.length p.bc) (by exact xc Try.underlying25 (has15.cell 16 rfl)) ?_
   simp only [lay]
   refine lv (.pointer (some ⟨b61, o62 + 7, none⟩)) (by exact xi 7 Try.underlying25 hA63) ?_
   simp only [lay]
   refine lv (.int .u8 (d.bl.getD 7 0)) (by exact xc Try.underlying5 (by65.atE (k := 7) hA63 (by omega))) ?_
   simp only [lay]
   by_cases q67 : d.bl.getD 7 0 = 0
   case pos =>
    refine lv (.bool true) (by exact yq) ?_
    simp only [lay]
    refine lv (.bool true) (by exact xp (b := true)) ?_
    simp only [lay]
    refine wn ?_
    refine cT9 ?_
    refine wp_seq ?_
    refine wp_sr ?_
    refine lv (.pointer (some ⟨g1, 3, none⟩)) (by exact xf 3 0 Try.underlying27) ?_
    simp only [lay]
    refine lv (.bool d.mf) (by exact xc Try.underlying4 (has15.cell 3 rfl)) ?_
    simp only [lay]
    refine wn ?_
    by_cases q68 : d.mf = true
    case pos =>
     rw [q68]
     refine cT9 ?_
     refine wp_sr ?_
     refine lv (.slice none 0 0) (by exact xa) ?_
     simp only [lay]
     refine lv (.int .i64 172) (by exact xa) ?_
     simp only [lay]
     refine wn ?_
     refine wp_ret ?_
     try simp only [Exit.then]
     have e : body17 d s t = ([], 172) := by
      unfold body17 two17
      try simp only [Nat.reduceAdd]
      repeat (first | rw [if_pos (by first | assumption | omega | exact ne_true_of_eq_false (by assumption))] | rw [if_neg (by first | assumption | omega | exact ne_true_of_eq_false (by assumption))])
     exact bodyPost_ret (res_tt Try.results47 rfl rfl) rfl ⟨TwoR.ok e (OwnB.nil _ _), b64⟩
    replace q68 := eq_false_of_ne_true q68
    rw [q68]
    refine cF9 ?_
    refine wp_skip ?_
    change Code.wp _ _ _ _ _
    refine wp_sr ?_
    refine lv (.agg (ends6 s t)) (by exact xo (hg10.load (P := Try.prog) 31 Try.underlying31 rfl (by kernel_rfl))) ?_
    simp only [lay]
    refine lv (.pointer (some ⟨g1, 16, none⟩)) (by exact xf 16 0 Try.underlying27) ?_
    simp only [lay]
    refine lv (.slice p.bA d.bl.length p.bc) (by exact xc Try.underlying25 (has15.cell 16 rfl)) ?_
    simp only [lay]
    refine lz (ow_call (fun v w' => (∃ u, v = .tuple #[u, .int .i64 (fresh17 d.bl s t).2] ∧ OwnB w' W9.heap.size u (fresh17 d.bl s t).1) ∧ Below W9.heap.size W9 w') (by exact xk Try.func81) ((rfresh_any s t hE _ _ _ _ W9 by65 (by omega) (by omega)).mono (by rintro e w' ⟨⟨v, rfl, ho⟩, hb⟩; exact ⟨_, rfl, ⟨v, rfl, ho⟩, hb⟩)) ?_)
    rintro _ W69 ⟨⟨u71, rfl, hO72⟩, hb70⟩
    have z73 := hb70.size
    obtain ⟨A74, c75, rfl, y76⟩ := hO72.by_
    simp only [lay]
    refine lv (.slice A74 (((fresh17 d.bl s t).1).length) c75) (by exact xe) ?_
    simp only [lay]
    refine lv (.int .i64 ((fresh17 d.bl s t).2)) (by exact xe) ?_
    simp only [lay]
    refine lv (.slice A74 (((fresh17 d.bl s t).1).length) c75) (by exact xa) ?_
    simp only [lay]
    refine lv (.int .i64 ((fresh17 d.bl s t).2)) (by exact xa) ?_
    simp only [lay]
    refine wn ?_
    refine wp_ret ?_
    try simp only [Exit.then]
    have e : body17 d s t = ((fresh17 d.bl s t).1, (fresh17 d.bl s t).2) := by
     unfold body17
     try simp only [Nat.reduceAdd]
     repeat (first | rw [if_pos (by first | assumption | omega | exact ne_true_of_eq_false (by assumption))] | rw [if_neg (by first | assumption | omega | exact ne_true_of_eq_false (by assumption))])
     rfl
    have b77 := bt b64 hb70
    exact bodyPost_ret (res_tt Try.results47 rfl rfl) rfl ⟨TwoR.ok e (hO72.more b64.size), b77⟩
   refine lv (.bool false) (by exact yqn) ?_
   simp only [lay]
   refine lv (.bool false) (by exact xp (b := true)) ?_
   simp only [lay]
   refine wn ?_
   refine cF9 ?_
   refine wp_skip ?_
   change Code.wp _ _ _ _ _
   refine wp_sr ?_
   refine lv (.agg (d.cells p)) (by exact xo (has15.load (P := Try.prog) 27 Try.underlying27 rfl (by kernel_rfl))) ?_
   simp only [lay]
   refine lv (.agg (ends6 s t)) (by exact xo (hg10.load (P := Try.prog) 31 Try.underlying31 rfl (by kernel_rfl))) ?_
   simp only [lay]
   refine lv (.pointer (some ⟨g1, 16, none⟩)) (by exact xf 16 0 Try.underlying27) ?_
   simp only [lay]
   refine lv (.slice p.bA d.bl.length p.bc) (by exact xc Try.underlying25 (has15.cell 16 rfl)) ?_
   simp only [lay]
   refine lz (ow_call (fun v w' => OwnB w' W9.heap.size v (carry17 (d.proto == 17) (from17 d) (s ++ t) d.bl 6) ∧ Below W9.heap.size W9 w') (by exact xk Try.func80) (rcarried_any d hR.ok p s t hE _ _ _ d.bl 6 W9 by65 (by omega) (by omega)) ?_)
   rintro v80 W78 ⟨hO81, hb79⟩
   have z82 := hb79.size
   obtain ⟨A83, c84, rfl, y85⟩ := hO81.by_
   simp only [lay]
   refine lv (.slice A83 ((carry17 (d.proto == 17) (from17 d) (s ++ t) d.bl 6).length) c84) (by exact xa) ?_
   simp only [lay]
   refine lv (.int .i64 0) (by exact xa) ?_
   simp only [lay]
   refine wn ?_
   refine wp_ret ?_
   try simp only [Exit.then]
   have hu : (d.proto == 17) = true := by rw [show d.proto = 17 from by assumption]; rfl
   have e : body17 d s t = (carry17 (d.proto == 17) (from17 d) (s ++ t) d.bl 6, 0) := by
    unfold body17 two17
    try simp only [Nat.reduceAdd]
    repeat (first | rw [if_pos (by first | assumption | omega | exact ne_true_of_eq_false (by assumption))] | rw [if_neg (by first | assumption | omega | exact ne_true_of_eq_false (by assumption))])
    rw [hu]
   have b86 := bt b64 hb79
   exact bodyPost_ret (res_tt Try.results47 rfl rfl) rfl ⟨TwoR.ok e (hO81.more b64.size), b86⟩
  refine lv (.bool false) (by exact yqn) ?_
  simp only [lay]
  refine lv (.bool false) (by exact xm) ?_
  simp only [lay]
  refine lzn ?_
  simp only [lay]
  refine lzn ?_
  simp only [lay]
  refine lzn ?_
  simp only [lay]
  refine lzn ?_
  simp only [lay]
  refine lzn ?_
  simp only [lay]
  refine lv (.bool false) (by exact xp (b := false)) ?_
  simp only [lay]
  refine wn ?_
  refine cF9 ?_
  refine wp_skip ?_
  change Code.wp _ _ _ _ _
  refine wp_sr ?_
  refine lv (.agg (d.cells p)) (by exact xo (has15.load (P := Try.prog) 27 Try.underlying27 rfl (by kernel_rfl))) ?_
  simp only [lay]
  refine lv (.agg (ends6 s t)) (by exact xo (hg10.load (P := Try.prog) 31 Try.underlying31 rfl (by kernel_rfl))) ?_
  simp only [lay]
  refine lv (.pointer (some ⟨g1, 16, none⟩)) (by exact xf 16 0 Try.underlying27) ?_
  simp only [lay]
  refine lv (.slice p.bA d.bl.length p.bc) (by exact xc Try.underlying25 (has15.cell 16 rfl)) ?_
  simp only [lay]
  refine lz (ow_call (fun v w' => OwnB w' W9.heap.size v (carry17 (d.proto == 17) (from17 d) (s ++ t) d.bl 6) ∧ Below W9.heap.size W9 w') (by exact xk Try.func80) (rcarried_any d hR.ok p s t hE _ _ _ d.bl 6 W9 by65 (by omega) (by omega)) ?_)
  rintro v89 W87 ⟨hO90, hb88⟩
  have z91 := hb88.size
  obtain ⟨A92, c93, rfl, y94⟩ := hO90.by_
  simp only [lay]
  refine lv (.slice A92 ((carry17 (d.proto == 17) (from17 d) (s ++ t) d.bl 6).length) c93) (by exact xa) ?_
  simp only [lay]
  refine lv (.int .i64 0) (by exact xa) ?_
  simp only [lay]
  refine wn ?_
  refine wp_ret ?_
  try simp only [Exit.then]
  have hu : (d.proto == 17) = true := by rw [show d.proto = 17 from by assumption]; rfl
  have e : body17 d s t = (carry17 (d.proto == 17) (from17 d) (s ++ t) d.bl 6, 0) := by
   unfold body17 two17
   try simp only [Nat.reduceAdd]
   repeat (first | rw [if_pos (by first | assumption | omega | exact ne_true_of_eq_false (by assumption))] | rw [if_neg (by first | assumption | omega | exact ne_true_of_eq_false (by assumption))])
   rw [hu]
  have b95 := bt b64 hb88
  exact bodyPost_ret (res_tt Try.results47 rfl rfl) rfl ⟨TwoR.ok e (hO90.more b64.size), b95⟩
 refine lv (.bool true) (by exact neq_int_ne (by exact rfl) (by exact rfl) (by exact rfl) (by first | assumption | omega)) ?_
 simp only [lay]
 refine lv (.bool true) (by exact xp (b := true)) ?_
 simp only [lay]
 refine lv (.bool true) (by exact xp (b := false)) ?_
 simp only [lay]
 refine wn ?_
 refine cT9 ?_
 refine wp_sr ?_
 refine lz (ow_build0 rfl Try.underlying25 (by kernel_rfl) ?_)
 intro g96 W97 hg98 ge99 sz100 hb101
 have z102 := hb101.size
 have hO103 : OwnB W97 W9.heap.size (.slice (some ⟨g96, 0, none⟩) 0 0) [] := OwnB.blk (l := []) hg98 (Nat.le_of_eq ge99.symm) rfl InB.nil (by simp)
 simp only [lay]
 refine lv (.pointer (some ⟨g1, 16, none⟩)) (by exact xf 16 0 Try.underlying27) ?_
 simp only [lay]
 have b104 := bt hb13 hb101
 have has105 := hg3.to b104
 refine lv (.slice p.bA d.bl.length p.bc) (by exact xc Try.underlying25 (has105.cell 16 rfl)) ?_
 simp only [lay]
 have b111 := bt hb6 hb13
 have b112 := bt b111 hb101
 have by113 := yb.to b112
 refine lz (ow_app (.tmp 19) (.tmp 21) 25 rfl Try.underlying25 info8 _ _ [] rfl hO103 _ _ _ _ d.bl rfl by113 (by simp only [List.length_nil]; omega) hb101.size ?_)
 intro v110 W106 hO107 hb108 hgr109
 have z114 := hb108.size
 have hO115 : OwnB W106 W9.heap.size v110 d.bl := hO107
 obtain ⟨A116, c117, rfl, y118⟩ := hO115.by_
 simp only [lay]
 refine lv (.slice A116 d.bl.length c117) (by exact xa) ?_
 simp only [lay]
 refine lv (.int .i64 0) (by exact xa) ?_
 simp only [lay]
 refine wn ?_
 refine wp_ret ?_
 try simp only [Exit.then]
 have e : body17 d s t = (d.bl, 0) := by
  unfold body17 two17
  try simp only [Nat.reduceAdd]
  repeat (first | rw [if_pos (by first | assumption | omega | exact ne_true_of_eq_false (by assumption))] | rw [if_neg (by first | assumption | omega | exact ne_true_of_eq_false (by assumption))])
 have l119 := Nat.le_trans b111.size (Nat.le_refl _)
 have b120 := b112.trans (hb108.mono l119)
 exact bodyPost_ret (res_tt Try.results47 rfl rfl) rfl ⟨TwoR.ok e (hO115.more b111.size), b120⟩
end Go.Proofs.Ytijnifbpbgckgaa
