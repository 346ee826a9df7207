/-
  Lemmas and walks for the row of TofourPackets,TofourMessages,TofourInside (part 35 of 42).
-/
import Derived.Test.YtjnphelfloiadaaFpAG
import Derived.Test.YtjnphelfloiadaaFpAU
set_option linter.unusedVariables false
set_option linter.unusedSimpArgs false
namespace Go.Proofs.Ytjnphelfloiadaa
open Go.RowKit Go.Shelf
attribute [local irreducible] wpList Code.wp Oper.wp wpOp wpAnyH

set_option maxRecDepth 100000 in
theorem rsize7_any (A : Option Addr) (n c : Nat) (w : World) (hn : n ≤ 9223372036854775807) :
  Calls Try.prog 91 #[.slice A n c] w fun e w' => e = .returned (.int .i64 (szerr n)) ∧ w = w' := by
 go_enter Try.func91, Try.ntmps91
 refine wp_sr ?_
 refine lv (.int .i64 0) (by exact xa) ?_
 simp only [lay]
 refine wn ?_
 refine wp_seq ?_
 refine wp_sr ?_
 refine lv (.slice A n c) (by exact xm) ?_
 refine lv (.int .i64 (n : Int)) (by exact xz Try.underlying26) ?_
 simp only [lay]
 by_cases q1 : (n : Int) < 8
 case pos =>
  refine lv (.bool true) (by exact ex_lss (by rfl) (by rfl) (by rfl) (decide_eq_true (by first|assumption|omega|decide))) ?_
  simp only [lay]
  refine wn ?_
  refine cT9 ?_
  refine wp_sr ?_
  refine lv (.int .i64 70) (by exact xa) ?_
  simp only [lay]
  refine wn ?_
  refine wp_ret ?_
  try simp only [Exit.then]
  have e : szerr n = 70 := by unfold szerr; repeat (first|rw [if_pos (by first|assumption|omega)]|rw [if_neg (by first|assumption|omega)])
  exact bodyPost_ret (res_one Try.results91 rfl) rfl ⟨by rw [e]; rfl, rfl⟩
 refine lv (.bool false) (by exact ex_lss (by rfl) (by rfl) (by rfl) (decide_eq_false (by first|assumption|omega|decide))) ?_
 simp only [lay]
 refine wn ?_
 refine cF9 ?_
 refine wp_skip ?_
 change Code.wp _ _ _ _ _
 refine wp_seq ?_
 refine wp_sr ?_
 refine lv (.slice A n c) (by exact xm) ?_
 refine lv (.int .i64 (n : Int)) (by exact xz Try.underlying26) ?_
 simp only [lay]
 by_cases q2 : (n : Int) > 65535
 case pos =>
  refine lv (.bool true) (by exact ex_gtr (by rfl) (by rfl) (by rfl) (decide_eq_true (by first|assumption|omega|decide))) ?_
  simp only [lay]
  refine wn ?_
  refine cT9 ?_
  refine wp_sr ?_
  refine lv (.int .i64 2) (by exact xa) ?_
  simp only [lay]
  refine wn ?_
  refine wp_ret ?_
  try simp only [Exit.then]
  have e : szerr n = 2 := by unfold szerr; repeat (first|rw [if_pos (by first|assumption|omega)]|rw [if_neg (by first|assumption|omega)])
  exact bodyPost_ret (res_one Try.results91 rfl) rfl ⟨by rw [e]; rfl, rfl⟩
 refine lv (.bool false) (by exact ex_gtr (by rfl) (by rfl) (by rfl) (decide_eq_false (by first|assumption|omega|decide))) ?_
 simp only [lay]
 refine wn ?_
 refine cF9 ?_
 refine wp_skip ?_
 change Code.wp _ _ _ _ _
 refine wp_sr ?_
 refine lv (.int .i64 0) (by exact xa) ?_
 simp only [lay]
 refine wn ?_
 refine wp_ret ?_
 try simp only [Exit.then]
 have e : szerr n = 0 := by unfold szerr; repeat (first|rw [if_pos (by first|assumption|omega)]|rw [if_neg (by first|assumption|omega)])
 exact bodyPost_ret (res_one Try.results91 rfl) rfl ⟨by rw [e]; rfl, rfl⟩
set_option maxRecDepth 100000 in
theorem rlong7_any (m : D7) (A : Option Addr) (c : Nat) (w : World) :
  Calls Try.prog 98 #[.agg (m.cells A c)] w fun e w' => e = .returned (.bool (decide (65527 < m.bl.length))) ∧ Below w.heap.size w w' := by
 go_enter Try.func98, Try.ntmps98
 refine wp_sr ?_
 refine lz (ow_box 43 (.tmp 0) _ rfl rfl ?_)
 intro g1 W2 hg3 ge4 sz5 hb6
 have z7 := hb6.size
 simp only [lay]
 refine lv (.bool false) (by exact xa) ?_
 simp only [lay]
 refine wn ?_
 refine wp_sr ?_
 refine lv (pq9 g1 3) (by exact xf 3 0 Try.underlying43) ?_
 refine lv (.slice A m.bl.length c) (by exact xc Try.underlying26 (hg3.cell 3 rfl)) ?_
 refine lv (.int .i64 (m.bl.length : Int)) (by exact xz Try.underlying26) ?_
 simp only [lay]
 by_cases q8 : (m.bl.length : Int) > 65527
 case pos =>
  refine lv (.bool true) (by exact ex_gtr (by rfl) (by rfl) (by rfl) (decide_eq_true (by first|assumption|omega|decide))) ?_
  refine lv (.bool true) (by exact xa) ?_
  simp only [lay]
  refine wn ?_
  refine wp_ret ?_
  try simp only [Exit.then]
  have e : decide (65527 < m.bl.length) = true := decide_eq_true (by omega)
  exact bodyPost_ret (res_one Try.results98 rfl) rfl ⟨by rw [e]; rfl, hb6⟩
 refine lv (.bool false) (by exact ex_gtr (by rfl) (by rfl) (by rfl) (decide_eq_false (by first|assumption|omega|decide))) ?_
 refine lv (.bool false) (by exact xa) ?_
 simp only [lay]
 refine wn ?_
 refine wp_ret ?_
 try simp only [Exit.then]
 have e : decide (65527 < m.bl.length) = false := decide_eq_false (by omega)
 exact bodyPost_ret (res_one Try.results98 rfl) rfl ⟨by rw [e]; rfl, hb6⟩
set_option maxRecDepth 100000 in
set_option maxHeartbeats 4000000 in
theorem rbytes7_any (m : D7) (A : Option Addr) (c : Nat) (v : Int) (hv : 0 ≤ v ∧ v < 65536) (w : World) (hR : Rd7 w.heap.size w m A c) (hm : m.bl.length ≤ 70368744177000) :
  Calls Try.prog 109 #[.agg (m.cells A c), .int .u16 v] w fun e w' => ∃ u, e = .returned u ∧ OwnB w' w.heap.size u (m.first v ++ m.bl) ∧ Below w.heap.size w w' := by
 have r1 := hR.ok.rest
 have r2 := hR.ok.ty
 have r3 := hR.ok.code
 have y := hR.body
 go_enter Try.func109, Try.ntmps109
 refine wp_sr ?_
 refine lz (ow_box 43 (.tmp 0) _ rfl rfl ?_)
 intro g1 W2 hg3 ge4 sz5 hb6
 have z7 := hb6.size
 simp only [lay]
 refine lv (.slice none 0 0) (by exact xa) ?_
 simp only [lay]
 refine wn ?_
 refine wp_sr ?_
 refine lv (pq9 g1 0) (by exact xf 0 0 Try.underlying43) ?_
 refine lv (.int .u8 m.ty) (by exact xc Try.underlying5 (hg3.cell 0 rfl)) ?_
 refine lv (pq9 g1 1) (by exact xf 1 0 Try.underlying43) ?_
 refine lv (.int .u8 m.code) (by exact xc Try.underlying5 (hg3.cell 1 rfl)) ?_
 simp only [lay]
 refine lv (.int .u16 v) (by exact xm) ?_
 refine lv (.int .u16 (v / 256)) (by exact xb (w_shr16 _ _ _)) ?_
 refine lv (.int .u8 (v / 256)) (by exact xv (conv_u8' 33 5 .u16 (v / 256) (by kernel_rfl) Try.underlying5 (by omega) _)) ?_
 refine lv (.int .u16 v) (by exact xm) ?_
 simp only [lay]
 refine lv (.int .u8 (v % 256)) (by exact xv (conv_u8 33 5 .u16 v (by kernel_rfl) Try.underlying5 _)) ?_
 refine lv (pq9 g1 2) (by exact xf 2 0 Try.underlying43) ?_
 refine lv (.int .u32 m.rest) (by exact xc Try.underlying22 (hg3.cell 2 rfl)) ?_
 refine lv (.int .u32 (m.rest / 16777216)) (by exact xb (b_shr .u32 _ 24 (m.rest / 16777216) rfl (by decide) _)) ?_
 simp only [lay]
 refine lv (.int .u8 (m.rest / 16777216)) (by exact xv (conv_u8' 22 5 .u32 (m.rest / 16777216) (by kernel_rfl) Try.underlying5 (by omega) _)) ?_
 refine lv (pq9 g1 2) (by exact xf 2 0 Try.underlying43) ?_
 refine lv (.int .u32 m.rest) (by exact xc Try.underlying22 (hg3.cell 2 rfl)) ?_
 refine lv (.int .u32 (m.rest / 65536)) (by exact xb (b_shr .u32 _ 16 (m.rest / 65536) rfl (by decide) _)) ?_
 simp only [lay]
 refine lv (.int .u8 ((m.rest / 65536) % 256)) (by exact xv (conv_u8 22 5 .u32 (m.rest / 65536) (by kernel_rfl) Try.underlying5 _)) ?_
 refine lv (pq9 g1 2) (by exact xf 2 0 Try.underlying43) ?_
 refine lv (.int .u32 m.rest) (by exact xc Try.underlying22 (hg3.cell 2 rfl)) ?_
 refine lv (.int .u32 (m.rest / 256)) (by exact xb (b_shr .u32 _ 8 (m.rest / 256) rfl (by decide) _)) ?_
 simp only [lay]
 refine lv (.int .u8 ((m.rest / 256) % 256)) (by exact xv (conv_u8 22 5 .u32 (m.rest / 256) (by kernel_rfl) Try.underlying5 _)) ?_
 refine lv (pq9 g1 2) (by exact xf 2 0 Try.underlying43) ?_
 refine lv (.int .u32 m.rest) (by exact xc Try.underlying22 (hg3.cell 2 rfl)) ?_
 refine lv (.int .u8 (m.rest % 256)) (by exact xv (conv_u8 22 5 .u32 m.rest (by kernel_rfl) Try.underlying5 _)) ?_
 simp only [lay]
 refine lz (ow_build (u8s [m.ty, m.code, v / 256, v % 256, m.rest / 16777216, (m.rest / 65536) % 256, (m.rest / 256) % 256, m.rest % 256]) rfl Try.underlying26 (by kernel_rfl) (by kernel_rfl) rfl (by decide) (by decide) (by first|rfl|(simp only [List.map_toArray, List.map_cons, List.map_nil] <;> rfl)) (u8s_cells _) ?_)
 intro g8 W9 hg10 ge11 sz12 hb13
 have z14 := hb13.size
 have hO15 := OwnB.blk hg10 (Nat.le_of_eq ge11.symm) rfl (by intro x hx; simp only [List.mem_cons, List.not_mem_nil, or_false] at hx; omega) (by simp)
 simp only [lay]
 refine lv (sq9 g8 0 8 8) (by exact xa) ?_
 simp only [lay]
 refine wn ?_
 refine wp_sr ?_
 refine lv (sq9 g8 0 8 8) (by exact xm) ?_
 refine lv (pq9 g1 3) (by exact xf 3 0 Try.underlying43) ?_
 simp only [lay]
 refine lv (.slice A m.bl.length c) (by exact xc Try.underlying26 ((hg3.to hb13).cell 3 rfl)) ?_
 simp only [lay]
 have b22 := bt hb6 hb13
 have by23 := y.to b22
 refine lz (ow_app (.tmp 31) (.tmp 33) 26 rfl Try.underlying26 info8 _ _ [m.ty, m.code, v / 256, v % 256, m.rest / 16777216, (m.rest / 65536) % 256, (m.rest / 256) % 256, m.rest % 256] rfl hO15 _ _ _ _ m.bl rfl by23 (by simp only [List.length_cons, List.length_nil]; omega) hb13.size ?_)
 intro v21 W17 hO18 hb19 hgr20
 have z24 := hb19.size
 obtain ⟨A25, c26, rfl, y27⟩ := hO18.by_
 simp only [lay]
 refine lv (.slice A25 (([m.ty, m.code, v / 256, v % 256, m.rest / 16777216, (m.rest / 65536) % 256, (m.rest / 256) % 256, m.rest % 256] ++ m.bl).length) c26) (by exact xa) ?_
 simp only [lay]
 refine wn ?_
 refine wp_ret ?_
 try simp only [Exit.then]
 exact bodyPost_ret (res_one Try.results109 rfl) rfl ⟨_, rfl, (by exact (hO18.more hb6.size)), (b22.trans (hb19.mono (Nat.le_trans hb6.size (Nat.le_refl _))))⟩
set_option maxRecDepth 100000 in
set_option maxHeartbeats 4000000 in
theorem rwrite7_any (m : D7) (A : Option Addr) (c : Nat) (Ap : Option Addr) (np cp : Nat) (ps : List Int) (w : World) (hR : Rd7 w.heap.size w m A c) (yp : By w.heap.size w Ap np cp ps) (hp : np ≤ 65536) (hm : m.bl.length ≤ 70368744) :
  Calls Try.prog 99 #[.agg (m.cells A c), .slice Ap np cp] w fun e w' => ∃ u, e = .returned u ∧ OwnB w' w.heap.size u (m.bytes ps) ∧ Below w.heap.size w w' := by
 have y := hR.body
 go_enter Try.func99, Try.ntmps99
 refine wp_sr ?_
 refine lz (ow_box 43 (.tmp 0) _ rfl rfl ?_)
 intro g1 W2 hg3 ge4 sz5 hb6
 have z7 := hb6.size
 simp only [lay]
 refine lv (.slice none 0 0) (by exact xa) ?_
 simp only [lay]
 refine wn ?_
 refine wp_seq ?_
 refine rg_drawn W2.heap.size (by kernel_rfl) (Nat.le_refl _) ?_
 intro W8 hb9 hs10 hS11
 have z12 := hb9.size
 refine te 0 (.agg (m.cells A c)) hS11 rfl (by intro _ h; exact xo ((hg3.to h).load (P := Try.prog) 43 Try.underlying43 rfl (by kernel_rfl))) ?_
 refine te 1 (.slice Ap np cp) hS11 rfl (by intro _ _; exact xm) ?_
 refine te 2 (.agg (m.cells A c)) hS11 rfl (by intro _ h; exact xo ((hg3.to h).load (P := Try.prog) 43 Try.underlying43 rfl (by kernel_rfl))) ?_
 simp only [lay]
 have b13 := bt hb6 hb9
 have rd14 := hR.to b13
 refine t1 3 rfl (ow_call (fun v w' => OwnB w' W8.heap.size v (m.first 0 ++ m.bl) ∧ Below W8.heap.size W8 w') (by exact xk Try.func109) (rbytes7_any m A c 0 (by omega) W8 rd14 (by omega)) ?_)
 rintro v17 W15 ⟨hO18, hb16⟩
 have z19 := hb16.size
 obtain ⟨A20, c21, rfl, y22⟩ := hO18.by_
 have hS23 := bt hS11 hb16
 refine ⟨hS23, ?_⟩
 simp only [lay]
 refine t1 4 rfl (ow_build [.slice Ap np cp, .slice A20 ((m.first 0 ++ m.bl).length) c21] rfl Try.underlying100 (by kernel_rfl) (by kernel_rfl) rfl (by decide) (by decide) (by first|rfl|(simp only [List.map_toArray, List.map_cons, List.map_nil] <;> rfl)) (by simp [Value.cells]) ?_)
 intro g24 W25 hg26 ge27 sz28 hb29
 have z30 := hb29.size
 have hS31 := bt hS23 hb29
 refine ⟨hS31, ?_⟩
 simp only [lay]
 have b33 := bt (bt b13 hb16) hb29
 have by34 := yp.to b33
 refine t1 5 rfl (ow_call (fun v w' => (∃ q, v = .int .u16 q ∧ q = 65535 - sumw (ps ++ (m.first 0 ++ m.bl)) ∧ 0 ≤ q ∧ q < 65536) ∧ Below W25.heap.size W25 w') (by exact xk Try.func57) (rof2 hg26 by34 (own_byS (hO18.to hb29)) (by simp only [List.length_append, D7.first, List.length_cons, List.length_nil]; omega)) ?_)
 rintro _ W36 ⟨⟨q38, rfl, hq39, q040, q141⟩, hb37⟩
 have z42 := hb37.size
 have hS43 := bt hS31 hb37
 refine ⟨hS43, ?_⟩
 simp only [lay]
 have b44 := bt b33 hb37
 have rd45 := hR.to b44
 refine t1 6 rfl (ow_call (fun v w' => OwnB w' W36.heap.size v (m.first q38 ++ m.bl) ∧ Below W36.heap.size W36 w') (by exact xk Try.func109) (rbytes7_any m A c q38 (by omega) W36 rd45 (by omega)) ?_)
 rintro v48 W46 ⟨hO49, hb47⟩
 have z50 := hb47.size
 obtain ⟨A51, c52, rfl, y53⟩ := hO49.by_
 have hS54 := bt hS43 hb47
 refine ⟨hS54, ?_⟩
 simp only [lay]
 refine te 7 (.slice A51 ((m.first q38 ++ m.bl).length) c52) hS54 rfl (by intro _ _; exact xa) ?_
 simp only [lay]
 refine wpAnyH_done (by kernel_rfl) ?_ _
 change Code.wp _ _ _ _ _
 refine wp_ret ?_
 try simp only [Exit.then]
 have e : m.bytes ps = m.first q38 ++ m.bl := by unfold D7.bytes D7.sum; rw [hq39, List.append_assoc]
 exact bodyPost_ret (res_one Try.results99 rfl) rfl ⟨_, rfl, by rw [e]; exact (hO49.more b44.size), (bt b44 hb47)⟩
theorem szerr_zero {n : Nat} (h : szerr n = 0) : 8 ≤ n ∧ n ≤ 65535 := by
 unfold szerr at h
 split at h
 ·cases h
 ·split at h
  ·cases h
  ·omega
def Par7 (base : Nat) (w' : World) (l ps : List Int) (e : Ending) : Prop := ∃ A c, e = .returned (.tuple #[.agg ((parse7 l ps).cells A c), .int .i64 (perr7 l ps)]) ∧ (parse7 l ps).ok ∧ OwnB w' base (.slice A (parse7 l ps).bl.length c) (parse7 l ps).bl

set_option maxRecDepth 100000 in
set_option maxHeartbeats 4000000 in
theorem rparse7_any (A : Option Addr) (n c : Nat) (l : List Int) (Ap : Option Addr) (np cp : Nat) (ps : List Int) (w : World) (y : By w.heap.size w A n c l) (yp : By w.heap.size w Ap np cp ps) (h8 : 8 ≤ l.length) (hm : l.length ≤ 65535) (hp : np ≤ 65536) :
  Calls Try.prog 92 #[.slice A n c, .slice Ap np cp] w fun e w' => Par7 w.heap.size w' l ps e ∧ Below w.heap.size w w' := by
 have yl := y.len
 have ypl := yp.len
 have t4 := getD_byte y.rng 4
 have t5 := getD_byte y.rng 5
 have t6 := getD_byte y.rng 6
 have t7 := getD_byte y.rng 7
 go_enter Try.func92, Try.ntmps92
 refine wp_sr ?_
 refine lz (oa #[.int .u8 0, .int .u8 0, .int .u32 0, .slice none 0 0] ?_)
 intro g1 W2 hg3 ge4 sz5 hb6
 have z7 := hb6.size
 simp only [lay]
 refine lv (.int .i64 0) (by exact xa) ?_
 simp only [lay]
 refine wn ?_
 refine wp_seq ?_
 refine wp_sr ?_
 refine lv (.slice Ap np cp) (by exact xm) ?_
 refine lv (.slice A n c) (by exact xm) ?_
 simp only [lay]
 refine lz (ow_build [.slice Ap np cp, .slice A n c] rfl Try.underlying100 (by kernel_rfl) (by kernel_rfl) rfl (by decide) (by decide) (by first|rfl|(simp only [List.map_toArray, List.map_cons, List.map_nil] <;> rfl)) (by simp [Value.cells]) ?_)
 intro g8 W9 hg10 ge11 sz12 hb13
 have z14 := hb13.size
 simp only [lay]
 have b15 := bt hb6 hb13
 have by16 := yp.to b15
 have by17 := y.to b15
 refine lz (ow_call (fun v w' => v = .int .u16 (sumw (ps ++ l)) ∧ Below W9.heap.size W9 w') (by exact xk Try.func59) (rfold2 hg10 by16 by17 (by omega)) ?_)
 rintro _ W18 ⟨rfl, hb19⟩
 have z20 := hb19.size
 simp only [lay]
 by_cases q21 : sumw (ps ++ l) = 65535
 case pos =>
  refine lv (.bool false) (by exact neq_int_eq (by rfl) (by rfl) (by rfl) (by first|assumption|omega)) ?_
  simp only [lay]
  refine wn ?_
  refine cF9 ?_
  refine wp_skip ?_
  change Code.wp _ _ _ _ _
  refine wp_seq ?_
  refine rg_drawn W18.heap.size (by kernel_rfl) (Nat.le_refl _) ?_
  intro W22 hb23 hs24 hS25
  have z26 := hb23.size
  refine te 0 (.slice A n c) hS25 rfl (by intro _ _; exact xm) ?_
  simp only [lay]
  obtain ⟨b27, o28, hA29⟩ := y.form (k := 4) (by omega)
  refine te 1 (pq9 b27 (o28 + 4)) hS25 rfl (by intro _ _; exact xi 4 Try.underlying26 hA29) ?_
  simp only [lay]
  have b30 := bt b15 hb19
  have by31 := y.to b30
  refine te 2 (.int .u8 (l.getD 4 0)) hS25 rfl (by intro _ h; exact xc Try.underlying5 ((by31.to h).atE (k := 4) hA29 (by omega))) ?_
  refine te 3 (.int .u32 (l.getD 4 0)) hS25 rfl (by intro _ _; exact xv (conv_u32 5 22 .u8 (l.getD 4 0) (by kernel_rfl) Try.underlying22 (in_rng (getD_byte y.rng 4)).1 (in_rng (getD_byte y.rng 4)).2.2 _)) ?_
  refine te 4 (.int .u32 ((l.getD 4 0) * 16777216)) hS25 rfl (by intro _ _; exact xb (w_shl32 _ 24 _ ((l.getD 4 0) * 16777216) rfl (by decide) (by have := (getD_byte y.rng 4); omega) _)) ?_
  refine te 5 (.slice A n c) hS25 rfl (by intro _ _; exact xm) ?_
  simp only [lay]
  refine te 6 (pq9 b27 (o28 + 5)) hS25 rfl (by intro _ _; exact xi 5 Try.underlying26 hA29) ?_
  refine te 7 (.int .u8 (l.getD 5 0)) hS25 rfl (by intro _ h; exact xc Try.underlying5 ((by31.to h).atE (k := 5) hA29 (by omega))) ?_
  refine te 8 (.int .u32 (l.getD 5 0)) hS25 rfl (by intro _ _; exact xv (conv_u32 5 22 .u8 (l.getD 5 0) (by kernel_rfl) Try.underlying22 (in_rng (getD_byte y.rng 5)).1 (in_rng (getD_byte y.rng 5)).2.2 _)) ?_
  refine te 9 (.int .u32 ((l.getD 5 0) * 65536)) hS25 rfl (by intro _ _; exact xb (w_shl32 _ 16 _ ((l.getD 5 0) * 65536) rfl (by decide) (by have := (getD_byte y.rng 5); omega) _)) ?_
  simp only [lay]
  refine te 10 (.int .u32 ((l.getD 4 0) * 16777216 + (l.getD 5 0) * 65536)) hS25 rfl (by intro _ _; exact xb (b_add32 _ ((l.getD 4 0) * 16777216 + (l.getD 5 0) * 65536) rfl (by omega) _)) ?_
  refine te 11 (.slice A n c) hS25 rfl (by intro _ _; exact xm) ?_
  refine te 12 (pq9 b27 (o28 + 6)) hS25 rfl (by intro _ _; exact xi 6 Try.underlying26 hA29) ?_
  refine te 13 (.int .u8 (l.getD 6 0)) hS25 rfl (by intro _ h; exact xc Try.underlying5 ((by31.to h).atE (k := 6) hA29 (by omega))) ?_
  simp only [lay]
  refine te 14 (.int .u32 (l.getD 6 0)) hS25 rfl (by intro _ _; exact xv (conv_u32 5 22 .u8 (l.getD 6 0) (by kernel_rfl) Try.underlying22 (in_rng (getD_byte y.rng 6)).1 (in_rng (getD_byte y.rng 6)).2.2 _)) ?_
  refine te 15 (.int .u32 ((l.getD 6 0) * 256)) hS25 rfl (by intro _ _; exact xb (w_shl32 _ 8 _ ((l.getD 6 0) * 256) rfl (by decide) (by have := (getD_byte y.rng 6); omega) _)) ?_
  refine te 16 (.int .u32 ((l.getD 4 0) * 16777216 + (l.getD 5 0) * 65536 + (l.getD 6 0) * 256)) hS25 rfl (by intro _ _; exact xb (b_add32 _ ((l.getD 4 0) * 16777216 + (l.getD 5 0) * 65536 + (l.getD 6 0) * 256) rfl (by omega) _)) ?_
  refine te 17 (.slice A n c) hS25 rfl (by intro _ _; exact xm) ?_
  simp only [lay]
  refine te 18 (pq9 b27 (o28 + 7)) hS25 rfl (by intro _ _; exact xi 7 Try.underlying26 hA29) ?_
  refine te 19 (.int .u8 (l.getD 7 0)) hS25 rfl (by intro _ h; exact xc Try.underlying5 ((by31.to h).atE (k := 7) hA29 (by omega))) ?_
  refine te 20 (.int .u32 (l.getD 7 0)) hS25 rfl (by intro _ _; exact xv (conv_u32 5 22 .u8 (l.getD 7 0) (by kernel_rfl) Try.underlying22 (in_rng (getD_byte y.rng 7)).1 (in_rng (getD_byte y.rng 7)).2.2 _)) ?_
  refine te 21 (.int .u32 ((l.getD 4 0) * 16777216 + (l.getD 5 0) * 65536 + (l.getD 6 0) * 256 + l.getD 7 0)) hS25 rfl (by intro _ _; exact xb (b_add32 _ ((l.getD 4 0) * 16777216 + (l.getD 5 0) * 65536 + (l.getD 6 0) * 256 + l.getD 7 0) rfl (by omega) _)) ?_
  simp only [lay]
  refine te 22 (.int .u32 ((l.getD 4 0) * 16777216 + (l.getD 5 0) * 65536 + (l.getD 6 0) * 256 + l.getD 7 0)) hS25 rfl (by intro _ _; exact xa) ?_
  simp only [lay]
  refine wpAnyH_done (by kernel_rfl) ?_ _
  change Code.wp _ _ _ _ _
  refine wp_seq ?_
  refine rg_drawn g1 (by kernel_rfl) (by omega) ?_
  intro W32 hb33 hs34 hS35
  have z36 := hb33.size
  refine te 0 (.slice A n c) hS35 rfl (by intro _ _; exact xm) ?_
  refine te 1 (pq9 b27 (o28 + 0)) hS35 rfl (by intro _ _; exact xi 0 Try.underlying26 hA29) ?_
  simp only [lay]
  have l37 : w.heap.size ≤ g1 := Nat.le_of_eq ge4.symm
  have b38 := bt b30 hb23
  refine te 2 (.int .u8 (l.getD 0 0)) hS35 rfl (by intro _ h; exact xc Try.underlying5 ((y.to (b38.trans (Below.mono h l37))).atE (k := 0) hA29 (by omega))) ?_
  refine te 3 (.slice A n c) hS35 rfl (by intro _ _; exact xm) ?_
  refine te 4 (pq9 b27 (o28 + 1)) hS35 rfl (by intro _ _; exact xi 1 Try.underlying26 hA29) ?_
  refine te 5 (.int .u8 (l.getD 1 0)) hS35 rfl (by intro _ h; exact xc Try.underlying5 ((y.to (b38.trans (Below.mono h l37))).atE (k := 1) hA29 (by omega))) ?_
  simp only [lay]
  refine te 6 (.int .u32 ((l.getD 4 0) * 16777216 + (l.getD 5 0) * 65536 + (l.getD 6 0) * 256 + l.getD 7 0)) hS35 rfl (by intro _ _; exact xm) ?_
  refine te 8 (.slice A n c) hS35 rfl (by intro _ _; exact xm) ?_
  simp only [lay]
  have b39 := bt b38 hb33
  have by40 := y.to b39
  obtain ⟨A41, c42, hs43, y44⟩ := by40.from_ (P := Try.prog) 26 Try.underlying26 (by kernel_rfl) (k := 8) (by omega)
  refine te 9 (.slice A41 (n - 8) c42) hS35 rfl (by intro _ _; exact ex_slice (by rfl) (by rfl) (hs43 _)) ?_
  simp only [lay]
  refine t1 7 rfl (ow_build0 rfl Try.underlying26 (by kernel_rfl) ?_)
  intro g45 W46 hg47 ge48 sz49 hb50
  have z51 := hb50.size
  have hO52 : OwnB W46 W32.heap.size (sq9 g45 0 0 0) [] := OwnB.blk (l := []) hg47 (Nat.le_of_eq ge48.symm) rfl InB.nil (by simp)
  refine ⟨(Below.trans hS35 (hb50.mono (Nat.le_trans (by omega) hS35.size))), ?_⟩
  have hS53 := (Below.trans hS35 (hb50.mono (Nat.le_trans (by omega) hS35.size)))
  simp only [lay]
  have by59 := y44.to hb50
  refine t1 10 rfl (ow_app (.tmp 42) (.tmp 44) 26 rfl Try.underlying26 info8 _ _ [] rfl hO52 _ _ _ _ (l.drop 8) rfl by59 (by simp only [List.length_nil]; omega) hb50.size ?_)
  intro v58 W54 hO55 hb56 hgr57
  have z60 := hb56.size
  have hO61 : OwnB W54 W32.heap.size v58 (l.drop 8) := hO55
  obtain ⟨A62, c63, rfl, y64⟩ := hO61.by_
  refine ⟨(Below.trans hS53 (hb56.mono (by omega))), ?_⟩
  have hS65 := (Below.trans hS53 (hb56.mono (by omega)))
  simp only [lay]
  refine te 11 (.agg #[.int .u8 (l.getD 0 0), .int .u8 (l.getD 1 0), .int .u32 ((l.getD 4 0) * 16777216 + (l.getD 5 0) * 65536 + (l.getD 6 0) * 256 + l.getD 7 0), .slice A62 ((l.drop 8).length) c63]) hS65 rfl (by intro _ _; kernel_rfl) ?_
  simp only [lay]
  have b72 := bt (bt (bt hb13 hb19) hb23) hb33
  refine t1 12 rfl (ow_st 43 (.tmp 4) (.tmp 46) g1 #[.int .u8 (l.getD 0 0), .int .u8 (l.getD 1 0), .int .u32 ((l.getD 4 0) * 16777216 + (l.getD 5 0) * 65536 + (l.getD 6 0) * 256 + l.getD 7 0), .slice A62 ((l.drop 8).length) c63] _ _ rfl (by rfl) (by rfl) (hg3.to ((bt b72 hb50).trans (hb56.mono (Nat.le_trans b72.size (Nat.le_refl _))))) (by kernel_rfl) rfl (by kernel_rfl) ?_)
  intro W66 hg67 bs68 hb69
  have b78 := bt (bt hb19 hb23) hb33
  have z83 := hb69.size
  have has84 := (hg10.to ((bt b78 hb50).trans (hb56.mono (Nat.le_trans b78.size (Nat.le_refl _))))).but6 bs68 (by omega)
  refine ⟨(Below.trans hS65 hb69), ?_⟩
  have hS86 := (Below.trans hS65 hb69)
  simp only [lay]
  refine te 13 (.int .i64 0) hS86 rfl (by intro _ _; exact xa) ?_
  simp only [lay]
  refine wpAnyH_done (by kernel_rfl) ?_ _
  change Code.wp _ _ _ _ _
  refine wp_ret ?_
  try simp only [Exit.then]
  have e1 := parse7_eq h8 hm (ps := ps)
  rw [if_neg (by omega)] at e1
  have e2 := perr7_eq h8 hm (ps := ps)
  rw [if_neg (by omega)] at e2
  have h4 : Has _ _ (.cells ((of7 l).cells A62 c63) 43 (0, 0)) := hg67
  exact bodyPost_ret (res_cell2 Try.results92 rfl (h4.load (P := Try.prog) 43 Try.underlying43 rfl (by kernel_rfl)) rfl) rfl ⟨⟨A62, c63, by rw [e1, e2]; rfl, by rw [e1]; exact of7_ok y.rng, by rw [e1]; exact ((hO61.but6 bs68 (by omega)).more b39.size)⟩, (((bt b39 hb50).trans (hb56.mono (Nat.le_trans b39.size (Nat.le_refl _)))).trans (hb69.mono l37))⟩
 refine lv (.bool true) (by exact neq_int_ne (by rfl) (by rfl) (by rfl) (by first|assumption|omega)) ?_
 simp only [lay]
 refine wn ?_
 refine cT9 ?_
 refine wp_sr ?_
 refine lv (.agg #[.int .u8 0, .int .u8 0, .int .u32 0, .slice none 0 0]) (by kernel_rfl) ?_
 simp only [lay]
 refine lz (ow_st 43 (.tmp 4) (.tmp 12) g1 #[.int .u8 0, .int .u8 0, .int .u32 0, .slice none 0 0] _ _ rfl (by rfl) (by rfl) (hg3.to (bt hb13 hb19)) (by kernel_rfl) rfl (by kernel_rfl) ?_)
 intro W91 hg92 bs93 hb94
 have z98 := hb94.size
 have has99 := (hg10.to hb19).but6 bs93 (by omega)
 simp only [lay]
 refine lv (.int .i64 71) (by exact xa) ?_
 simp only [lay]
 refine wn ?_
 refine wp_ret ?_
 try simp only [Exit.then]
 have e1 := parse7_eq h8 hm (ps := ps)
 rw [if_pos (by omega)] at e1
 have e2 := perr7_eq h8 hm (ps := ps)
 rw [if_pos (by omega)] at e2
 have l101 : w.heap.size ≤ g1 := Nat.le_of_eq ge4.symm
 exact bodyPost_ret (res_cell2 Try.results92 rfl (hg92.load (P := Try.prog) 43 Try.underlying43 rfl (by kernel_rfl)) rfl) rfl ⟨⟨none, 0, by rw [e1, e2]; rfl, by rw [e1]; exact zero7_ok, by rw [e1]; exact OwnB.nil _ _⟩, ((bt b15 hb19).trans (hb94.mono l101))⟩
end Go.Proofs.Ytjnphelfloiadaa
