/-
  Lemmas and walks for the row of TosixPackets (part 40 of 45).
-/
import Derived.Test.YtijnifbpbgckgaaTpAF
import Derived.Test.YtijnifbpbgckgaaTpBK
set_option linter.unusedVariables false
set_option linter.unusedSimpArgs false
namespace Go.Proofs.Ytijnifbpbgckgaa
open Go.RowKit Go.Shelf
attribute [local irreducible] wpList Code.wp Oper.wp wpOp wpAnyH

set_option maxRecDepth 100000 in
theorem rsize7_any (A : Option Addr) (n c : Nat) (w : World) (hn : n ≤ 9223372036854775807) :
  Calls Try.prog 62 #[.slice A n c] w fun e w' => e = .returned (.int .i64 (szerr n)) ∧ w = w' := by
 go_enter Try.func62, Try.ntmps62
 refine wp_sr ?_
 refine lv (.int .i64 0) (by exact xa) ?_
 simp only [lay]
 refine wn ?_
 refine wp_seq ?_
 refine wp_sr ?_
 refine lv (.slice A n c) (by exact xm) ?_
 simp only [lay]
 refine lv (.int .i64 (n : Int)) (by exact xz Try.underlying25) ?_
 simp only [lay]
 by_cases q1 : (n : Int) < 8
 case pos =>
  refine lv (.bool true) (by exact ex_lss (by exact rfl) (by exact rfl) (by exact rfl) (decide_eq_true (by first | assumption | omega | decide))) ?_
  simp only [lay]
  refine wn ?_
  refine cT9 ?_
  refine wp_sr ?_
  refine lv (.int .i64 70) (by exact xa) ?_
  simp only [lay]
  refine wn ?_
  refine wp_ret ?_
  try simp only [Exit.then]
  have e : szerr n = 70 := by unfold szerr; repeat (first | rw [if_pos (by first | assumption | omega)] | rw [if_neg (by first | assumption | omega)])
  exact bodyPost_ret (res_one Try.results62 rfl) rfl ⟨by rw [e]; rfl, rfl⟩
 refine lv (.bool false) (by exact ex_lss (by exact rfl) (by exact rfl) (by exact rfl) (decide_eq_false (by first | assumption | omega | decide))) ?_
 simp only [lay]
 refine wn ?_
 refine cF9 ?_
 refine wp_skip ?_
 change Code.wp _ _ _ _ _
 refine wp_seq ?_
 refine wp_sr ?_
 refine lv (.slice A n c) (by exact xm) ?_
 simp only [lay]
 refine lv (.int .i64 (n : Int)) (by exact xz Try.underlying25) ?_
 simp only [lay]
 by_cases q2 : (n : Int) > 65535
 case pos =>
  refine lv (.bool true) (by exact ex_gtr (by exact rfl) (by exact rfl) (by exact rfl) (decide_eq_true (by first | assumption | omega | decide))) ?_
  simp only [lay]
  refine wn ?_
  refine cT9 ?_
  refine wp_sr ?_
  refine lv (.int .i64 2) (by exact xa) ?_
  simp only [lay]
  refine wn ?_
  refine wp_ret ?_
  try simp only [Exit.then]
  have e : szerr n = 2 := by unfold szerr; repeat (first | rw [if_pos (by first | assumption | omega)] | rw [if_neg (by first | assumption | omega)])
  exact bodyPost_ret (res_one Try.results62 rfl) rfl ⟨by rw [e]; rfl, rfl⟩
 refine lv (.bool false) (by exact ex_gtr (by exact rfl) (by exact rfl) (by exact rfl) (decide_eq_false (by first | assumption | omega | decide))) ?_
 simp only [lay]
 refine wn ?_
 refine cF9 ?_
 refine wp_skip ?_
 change Code.wp _ _ _ _ _
 refine wp_sr ?_
 refine lv (.int .i64 0) (by exact xa) ?_
 simp only [lay]
 refine wn ?_
 refine wp_ret ?_
 try simp only [Exit.then]
 have e : szerr n = 0 := by unfold szerr; repeat (first | rw [if_pos (by first | assumption | omega)] | rw [if_neg (by first | assumption | omega)])
 exact bodyPost_ret (res_one Try.results62 rfl) rfl ⟨by rw [e]; rfl, rfl⟩
set_option maxRecDepth 100000 in
theorem rlong7_any (m : D7) (A : Option Addr) (c : Nat) (w : World) :
  Calls Try.prog 100 #[.agg (m.cells A c)] w fun e w' => e = .returned (.bool (decide (65527 < m.bl.length))) ∧ Below w.heap.size w w' := by
 go_enter Try.func100, Try.ntmps100
 refine wp_sr ?_
 refine lz (ow_box 46 (.tmp 0) _ rfl rfl ?_)
 intro g1 W2 hg3 ge4 sz5 hb6
 have z7 := hb6.size
 simp only [lay]
 refine lv (.bool false) (by exact xa) ?_
 simp only [lay]
 refine wn ?_
 refine wp_sr ?_
 refine lv (.pointer (some ⟨g1, 3, none⟩)) (by exact xf 3 0 Try.underlying46) ?_
 simp only [lay]
 refine lv (.slice A m.bl.length c) (by exact xc Try.underlying25 (hg3.cell 3 rfl)) ?_
 simp only [lay]
 refine lv (.int .i64 (m.bl.length : Int)) (by exact xz Try.underlying25) ?_
 simp only [lay]
 by_cases q8 : (m.bl.length : Int) > 65527
 case pos =>
  refine lv (.bool true) (by exact ex_gtr (by exact rfl) (by exact rfl) (by exact rfl) (decide_eq_true (by first | assumption | omega | decide))) ?_
  simp only [lay]
  refine lv (.bool true) (by exact xa) ?_
  simp only [lay]
  refine wn ?_
  refine wp_ret ?_
  try simp only [Exit.then]
  have e : decide (65527 < m.bl.length) = true := decide_eq_true (by omega)
  exact bodyPost_ret (res_one Try.results100 rfl) rfl ⟨by rw [e]; rfl, hb6⟩
 refine lv (.bool false) (by exact ex_gtr (by exact rfl) (by exact rfl) (by exact rfl) (decide_eq_false (by first | assumption | omega | decide))) ?_
 simp only [lay]
 refine lv (.bool false) (by exact xa) ?_
 simp only [lay]
 refine wn ?_
 refine wp_ret ?_
 try simp only [Exit.then]
 have e : decide (65527 < m.bl.length) = false := decide_eq_false (by omega)
 exact bodyPost_ret (res_one Try.results100 rfl) rfl ⟨by rw [e]; rfl, hb6⟩
set_option maxRecDepth 100000 in
set_option maxHeartbeats 4000000 in
theorem rbytes7_any (m : D7) (A : Option Addr) (c : Nat) (v : Int) (hv : 0 ≤ v ∧ v < 65536) (w : World) (hR : Rd7 w.heap.size w m A c) (hm : m.bl.length ≤ 70368744177000) :
  Calls Try.prog 112 #[.agg (m.cells A c), .int .u16 v] w fun e w' => ∃ u, e = .returned u ∧ OwnB w' w.heap.size u (m.first v ++ m.bl) ∧ Below w.heap.size w w' := by
 have r1 := hR.ok.rest
 have r2 := hR.ok.ty
 have r3 := hR.ok.code
 have y := hR.body
 go_enter Try.func112, Try.ntmps112
 refine wp_sr ?_
 refine lz (ow_box 46 (.tmp 0) _ rfl rfl ?_)
 intro g1 W2 hg3 ge4 sz5 hb6
 have z7 := hb6.size
 simp only [lay]
 refine lv (.slice none 0 0) (by exact xa) ?_
 simp only [lay]
 refine wn ?_
 refine wp_sr ?_
 refine lv (.pointer (some ⟨g1, 0, none⟩)) (by exact xf 0 0 Try.underlying46) ?_
 simp only [lay]
 refine lv (.int .u8 m.ty) (by exact xc Try.underlying5 (hg3.cell 0 rfl)) ?_
 simp only [lay]
 refine lv (.pointer (some ⟨g1, 1, none⟩)) (by exact xf 1 0 Try.underlying46) ?_
 simp only [lay]
 refine lv (.int .u8 m.code) (by exact xc Try.underlying5 (hg3.cell 1 rfl)) ?_
 simp only [lay]
 refine lv (.int .u16 v) (by exact xm) ?_
 simp only [lay]
 refine lv (.int .u16 (v / 256)) (by exact xb (w_shr16 _ _ _)) ?_
 simp only [lay]
 refine lv (.int .u8 (v / 256)) (by exact xv (conv_u8' 22 5 .u16 (v / 256) (by kernel_rfl) Try.underlying5 (by omega) _)) ?_
 simp only [lay]
 refine lv (.int .u16 v) (by exact xm) ?_
 simp only [lay]
 refine lv (.int .u8 (v % 256)) (by exact xv (conv_u8 22 5 .u16 v (by kernel_rfl) Try.underlying5 _)) ?_
 simp only [lay]
 refine lv (.pointer (some ⟨g1, 2, none⟩)) (by exact xf 2 0 Try.underlying46) ?_
 simp only [lay]
 refine lv (.int .u32 m.rest) (by exact xc Try.underlying33 (hg3.cell 2 rfl)) ?_
 simp only [lay]
 refine lv (.int .u32 (m.rest / 16777216)) (by exact xb (b_shr .u32 _ 24 (m.rest / 16777216) rfl (by decide) _)) ?_
 simp only [lay]
 refine lv (.int .u8 (m.rest / 16777216)) (by exact xv (conv_u8' 33 5 .u32 (m.rest / 16777216) (by kernel_rfl) Try.underlying5 (by omega) _)) ?_
 simp only [lay]
 refine lv (.pointer (some ⟨g1, 2, none⟩)) (by exact xf 2 0 Try.underlying46) ?_
 simp only [lay]
 refine lv (.int .u32 m.rest) (by exact xc Try.underlying33 (hg3.cell 2 rfl)) ?_
 simp only [lay]
 refine lv (.int .u32 (m.rest / 65536)) (by exact xb (b_shr .u32 _ 16 (m.rest / 65536) rfl (by decide) _)) ?_
 simp only [lay]
 refine lv (.int .u8 ((m.rest / 65536) % 256)) (by exact xv (conv_u8 33 5 .u32 (m.rest / 65536) (by kernel_rfl) Try.underlying5 _)) ?_
 simp only [lay]
 refine lv (.pointer (some ⟨g1, 2, none⟩)) (by exact xf 2 0 Try.underlying46) ?_
 simp only [lay]
 refine lv (.int .u32 m.rest) (by exact xc Try.underlying33 (hg3.cell 2 rfl)) ?_
 simp only [lay]
 refine lv (.int .u32 (m.rest / 256)) (by exact xb (b_shr .u32 _ 8 (m.rest / 256) rfl (by decide) _)) ?_
 simp only [lay]
 refine lv (.int .u8 ((m.rest / 256) % 256)) (by exact xv (conv_u8 33 5 .u32 (m.rest / 256) (by kernel_rfl) Try.underlying5 _)) ?_
 simp only [lay]
 refine lv (.pointer (some ⟨g1, 2, none⟩)) (by exact xf 2 0 Try.underlying46) ?_
 simp only [lay]
 refine lv (.int .u32 m.rest) (by exact xc Try.underlying33 (hg3.cell 2 rfl)) ?_
 simp only [lay]
 refine lv (.int .u8 (m.rest % 256)) (by exact xv (conv_u8 33 5 .u32 m.rest (by kernel_rfl) Try.underlying5 _)) ?_
 simp only [lay]
 refine lz (ow_build (u8s [m.ty, m.code, v / 256, v % 256, m.rest / 16777216, (m.rest / 65536) % 256, (m.rest / 256) % 256, m.rest % 256]) rfl Try.underlying25 (by kernel_rfl) (by kernel_rfl) rfl (by decide) (by decide) (by first | rfl | (simp only [List.map_toArray, List.map_cons, List.map_nil] <;> rfl)) (u8s_cells _) ?_)
 intro g8 W9 hg10 ge11 sz12 hb13
 have z14 := hb13.size
 have hO15 := OwnB.blk hg10 (Nat.le_of_eq ge11.symm) rfl (by intro x hx; simp only [List.mem_cons, List.not_mem_nil, or_false] at hx; omega) (by simp)
 simp only [lay]
 refine lv (.slice (some ⟨g8, 0, none⟩) 8 8) (by exact xa) ?_
 simp only [lay]
 refine wn ?_
 refine wp_sr ?_
 refine lv (.slice (some ⟨g8, 0, none⟩) 8 8) (by exact xm) ?_
 simp only [lay]
 refine lv (.pointer (some ⟨g1, 3, none⟩)) (by exact xf 3 0 Try.underlying46) ?_
 simp only [lay]
 have has16 := hg3.to hb13
 refine lv (.slice A m.bl.length c) (by exact xc Try.underlying25 (has16.cell 3 rfl)) ?_
 simp only [lay]
 have b22 := bt hb6 hb13
 have by23 := y.to b22
 refine lz (ow_app (.tmp 31) (.tmp 33) 25 rfl Try.underlying25 info8 _ _ [m.ty, m.code, v / 256, v % 256, m.rest / 16777216, (m.rest / 65536) % 256, (m.rest / 256) % 256, m.rest % 256] rfl hO15 _ _ _ _ m.bl rfl by23 (by simp only [List.length_cons, List.length_nil]; omega) hb13.size ?_)
 intro v21 W17 hO18 hb19 hgr20
 have z24 := hb19.size
 obtain ⟨A25, c26, rfl, y27⟩ := hO18.by_
 simp only [lay]
 refine lv (.slice A25 (([m.ty, m.code, v / 256, v % 256, m.rest / 16777216, (m.rest / 65536) % 256, (m.rest / 256) % 256, m.rest % 256] ++ m.bl).length) c26) (by exact xa) ?_
 simp only [lay]
 refine wn ?_
 refine wp_ret ?_
 try simp only [Exit.then]
 have l28 := Nat.le_trans hb6.size (Nat.le_refl _)
 have b29 := b22.trans (hb19.mono l28)
 exact bodyPost_ret (res_one Try.results112 rfl) rfl ⟨_, rfl, (by exact (hO18.more hb6.size)), b29⟩
set_option maxRecDepth 100000 in
set_option maxHeartbeats 4000000 in
theorem rwrite7_any (m : D7) (A : Option Addr) (c : Nat) (Ap : Option Addr) (np cp : Nat) (ps : List Int) (w : World) (hR : Rd7 w.heap.size w m A c) (yp : By w.heap.size w Ap np cp ps) (hp : np ≤ 65536) (hm : m.bl.length ≤ 70368744) :
  Calls Try.prog 101 #[.agg (m.cells A c), .slice Ap np cp] w fun e w' => ∃ u, e = .returned u ∧ OwnB w' w.heap.size u (m.bytes ps) ∧ Below w.heap.size w w' := by
 have y := hR.body
 go_enter Try.func101, Try.ntmps101
 refine wp_sr ?_
 refine lz (ow_box 46 (.tmp 0) _ rfl rfl ?_)
 intro g1 W2 hg3 ge4 sz5 hb6
 have z7 := hb6.size
 simp only [lay]
 refine lv (.slice none 0 0) (by exact xa) ?_
 simp only [lay]
 refine wn ?_
 refine wp_seq ?_
 refine rg_drawn W2.heap.size (by kernel_rfl) (Nat.le_refl _) ?_
 intro W8 hb9 hs10 hS11
 have z12 := hb9.size
 refine te 0 (.agg (m.cells A c)) hS11 rfl (by intro _ h; exact xo ((hg3.to h).load (P := Try.prog) 46 Try.underlying46 rfl (by kernel_rfl))) ?_
 simp only [lay]
 refine te 1 (.slice Ap np cp) hS11 rfl (by intro _ _; exact xm) ?_
 simp only [lay]
 refine te 2 (.agg (m.cells A c)) hS11 rfl (by intro _ h; exact xo ((hg3.to h).load (P := Try.prog) 46 Try.underlying46 rfl (by kernel_rfl))) ?_
 simp only [lay]
 have b13 := bt hb6 hb9
 have rd14 := hR.to b13
 refine t1 3 rfl (ow_call (fun v w' => OwnB w' W8.heap.size v (m.first 0 ++ m.bl) ∧ Below W8.heap.size W8 w') (by exact xk Try.func112) (rbytes7_any m A c 0 (by omega) W8 rd14 (by omega)) ?_)
 rintro v17 W15 ⟨hO18, hb16⟩
 have z19 := hb16.size
 obtain ⟨A20, c21, rfl, y22⟩ := hO18.by_
 refine ⟨(Below.trans hS11 (hb16.mono hS11.size)), ?_⟩
 have hS23 := (Below.trans hS11 (hb16.mono hS11.size))
 simp only [lay]
 refine t1 4 rfl (ow_build [.slice Ap np cp, .slice A20 ((m.first 0 ++ m.bl).length) c21] rfl Try.underlying106 (by kernel_rfl) (by kernel_rfl) rfl (by decide) (by decide) (by first | rfl | (simp only [List.map_toArray, List.map_cons, List.map_nil] <;> rfl)) (by simp [Value.cells]) ?_)
 intro g24 W25 hg26 ge27 sz28 hb29
 have z30 := hb29.size
 refine ⟨(Below.trans hS23 (hb29.mono hS23.size)), ?_⟩
 have hS31 := (Below.trans hS23 (hb29.mono hS23.size))
 simp only [lay]
 have b32 := bt b13 hb16
 have b33 := bt b32 hb29
 have by34 := yp.to b33
 have own35 := hO18.to hb29
 refine t1 5 rfl (ow_call (fun v w' => (∃ q, v = .int .u16 q ∧ q = 65535 - sumw (ps ++ (m.first 0 ++ m.bl)) ∧ 0 ≤ q ∧ q < 65536) ∧ Below W25.heap.size W25 w') (by exact xk Try.func103) (rof2 hg26 by34 (own_byS own35) (by simp only [List.length_append, D7.first, List.length_cons, List.length_nil]; omega)) ?_)
 rintro _ W36 ⟨⟨q38, rfl, hq39, q040, q141⟩, hb37⟩
 have z42 := hb37.size
 refine ⟨(Below.trans hS31 (hb37.mono hS31.size)), ?_⟩
 have hS43 := (Below.trans hS31 (hb37.mono hS31.size))
 simp only [lay]
 have b44 := bt b33 hb37
 have rd45 := hR.to b44
 refine t1 6 rfl (ow_call (fun v w' => OwnB w' W36.heap.size v (m.first q38 ++ m.bl) ∧ Below W36.heap.size W36 w') (by exact xk Try.func112) (rbytes7_any m A c q38 (by omega) W36 rd45 (by omega)) ?_)
 rintro v48 W46 ⟨hO49, hb47⟩
 have z50 := hb47.size
 obtain ⟨A51, c52, rfl, y53⟩ := hO49.by_
 refine ⟨(Below.trans hS43 (hb47.mono hS43.size)), ?_⟩
 have hS54 := (Below.trans hS43 (hb47.mono hS43.size))
 simp only [lay]
 refine te 7 (.slice A51 ((m.first q38 ++ m.bl).length) c52) hS54 rfl (by intro _ _; exact xa) ?_
 simp only [lay]
 refine wpAnyH_done (by kernel_rfl) ?_ _
 change Code.wp _ _ _ _ _
 refine wp_ret ?_
 try simp only [Exit.then]
 have e : m.bytes ps = m.first q38 ++ m.bl := by unfold D7.bytes D7.sum; rw [hq39, List.append_assoc]
 have b55 := bt b44 hb47
 exact bodyPost_ret (res_one Try.results101 rfl) rfl ⟨_, rfl, by rw [e]; exact (hO49.more b44.size), b55⟩
set_option maxRecDepth 100000 in
set_option maxHeartbeats 4000000 in
theorem rwrite6m_any (s t : List Int) (hE : E6ok s t) (m : D7) (A : Option Addr) (c : Nat) (w : World) (hR : Rd7 w.heap.size w m A c) :
  Calls Try.prog 79 #[.agg ((u8s (l16 s)).toArray), .agg ((u8s (l16 t)).toArray), .agg (m.cells A c)] w fun e w' => TwoR (m.write (pse6 s t (8 + m.bl.length) 58), m.err) w.heap.size w' e ∧ Below w.heap.size w w' := by
 have sL := hE.sL
 have tL := hE.tL
 have y := hR.body
 go_enter Try.func79, Try.ntmps79
 refine wp_sr ?_
 refine lz (ow_box 29 (.tmp 0) _ rfl rfl ?_)
 intro g1 W2 hg3 ge4 sz5 hb6
 have z7 := hb6.size
 simp only [lay]
 refine lz (ow_box 29 (.tmp 1) _ rfl rfl ?_)
 intro g8 W9 hg10 ge11 sz12 hb13
 have z14 := hb13.size
 simp only [lay]
 refine lz (ow_box 46 (.tmp 2) _ rfl rfl ?_)
 intro g15 W16 hg17 ge18 sz19 hb20
 have z21 := hb20.size
 simp only [lay]
 refine lv (.slice none 0 0) (by exact xa) ?_
 simp only [lay]
 refine lv (.int .i64 0) (by exact xa) ?_
 simp only [lay]
 refine wn ?_
 refine wp_seq ?_
 refine wp_sr ?_
 refine lv (.agg (m.cells A c)) (by exact xo (hg17.load (P := Try.prog) 46 Try.underlying46 rfl (by kernel_rfl))) ?_
 simp only [lay]
 by_cases q22 : 65527 < m.bl.length
 case pos =>
  refine lz (ow_call (fun v w' => v = .bool true ∧ Below W16.heap.size W16 w') (by exact xk Try.func100) ((rlong7_any m A c W16).mono fun e w' h => ⟨_, h.1, by rw [decide_eq_true (by assumption)], h.2⟩) ?_)
  rintro _ W23 ⟨rfl, hb24⟩
  have z25 := hb24.size
  simp only [lay]
  refine wn ?_
  refine cT9 ?_
  refine wp_sr ?_
  refine lv (.slice none 0 0) (by exact xa) ?_
  simp only [lay]
  refine lv (.int .i64 2) (by exact xa) ?_
  simp only [lay]
  refine wn ?_
  refine wp_ret ?_
  try simp only [Exit.then]
  have e : (m.write (pse6 s t (8 + m.bl.length) 58), m.err) = ([], 2) := by rw [D7.write, D7.err, if_pos (by assumption), if_pos (by assumption)]
  have b26 := bt hb6 hb13
  have b27 := bt b26 hb20
  have b28 := bt b27 hb24
  exact bodyPost_ret (res_tt Try.results79 rfl rfl) rfl ⟨TwoR.ok e (OwnB.nil _ _), b28⟩
 refine lz (ow_call (fun v w' => v = .bool false ∧ Below W16.heap.size W16 w') (by exact xk Try.func100) ((rlong7_any m A c W16).mono fun e w' h => ⟨_, h.1, by rw [decide_eq_false (by assumption)], h.2⟩) ?_)
 rintro _ W29 ⟨rfl, hb30⟩
 have z31 := hb30.size
 simp only [lay]
 refine wn ?_
 refine cF9 ?_
 refine wp_skip ?_
 change Code.wp _ _ _ _ _
 refine wp_sr ?_
 have b32 := bt hb13 hb20
 have b33 := bt b32 hb30
 have has34 := hg3.to b33
 refine lv (.agg ((u8s (l16 s)).toArray)) (by exact xo (has34.load (P := Try.prog) 29 Try.underlying29 rfl (by kernel_rfl))) ?_
 simp only [lay]
 have b35 := bt hb20 hb30
 have has36 := hg10.to b35
 refine lv (.agg ((u8s (l16 t)).toArray)) (by exact xo (has36.load (P := Try.prog) 29 Try.underlying29 rfl (by kernel_rfl))) ?_
 simp only [lay]
 refine lv (.pointer (some ⟨g15, 3, none⟩)) (by exact xf 3 0 Try.underlying46) ?_
 simp only [lay]
 have has37 := hg17.to hb30
 refine lv (.slice A m.bl.length c) (by exact xc Try.underlying25 (has37.cell 3 rfl)) ?_
 simp only [lay]
 refine lv (.int .i64 (m.bl.length : Int)) (by exact xz Try.underlying25) ?_
 simp only [lay]
 refine lv (.int .i64 (8 + (m.bl.length : Int))) (by exact xb (b_add _ (8 + (m.bl.length : Int)) rfl (by omega) _)) ?_
 simp only [lay]
 refine lz (ow_call (fun v w' => (∃ u, v = .tuple #[u, .int .i64 0] ∧ OwnB w' W29.heap.size u (pse6 s t (8 + (m.bl.length : Int)) 58)) ∧ Below W29.heap.size W29 w') (by exact xk Try.func59) (rpseudo6_l hE.sL hE.tL hE.s hE.t (by omega) (by omega) W29) ?_)
 rintro _ W38 ⟨⟨u40, rfl, hO41⟩, hb39⟩
 have z42 := hb39.size
 obtain ⟨A43, c44, rfl, y45⟩ := hO41.by_
 simp only [lay]
 refine lv (.tuple #[.slice A43 ((pse6 s t (8 + (m.bl.length : Int)) 58).length) c44, .int .i64 0]) (by exact xm) ?_
 simp only [lay]
 refine lv (.slice A43 ((pse6 s t (8 + (m.bl.length : Int)) 58).length) c44) (by exact xe) ?_
 simp only [lay]
 refine lv (.int .i64 0) (by exact xe) ?_
 simp only [lay]
 refine lv (.slice A43 ((pse6 s t (8 + (m.bl.length : Int)) 58).length) c44) (by exact xa) ?_
 simp only [lay]
 refine lv (.int .i64 0) (by exact xa) ?_
 simp only [lay]
 refine wn ?_
 refine wp_sr ?_
 have b46 := bt hb30 hb39
 have has47 := hg17.to b46
 refine lv (.agg (m.cells A c)) (by exact xo (has47.load (P := Try.prog) 46 Try.underlying46 rfl (by kernel_rfl))) ?_
 simp only [lay]
 refine lv (.slice A43 ((pse6 s t (8 + (m.bl.length : Int)) 58).length) c44) (by exact xm) ?_
 simp only [lay]
 have b48 := bt hb6 hb13
 have b49 := bt b48 hb20
 have b50 := bt b49 hb30
 have b51 := bt b50 hb39
 have rd52 := hR.to b51
 refine lz (ow_call (fun v w' => OwnB w' W38.heap.size v (m.bytes (pse6 s t (8 + (m.bl.length : Int)) 58)) ∧ Below W38.heap.size W38 w') (by exact xk Try.func101) (rwrite7_any m A c _ _ _ _ W38 rd52 (own_byS hO41) (by simp only [pse6, List.length_append, List.length_cons, List.length_nil, sL, tL]; omega) (by omega)) ?_)
 rintro v55 W53 ⟨hO56, hb54⟩
 have z57 := hb54.size
 obtain ⟨A58, c59, rfl, y60⟩ := hO56.by_
 simp only [lay]
 refine lv (.slice A58 ((m.bytes (pse6 s t (8 + (m.bl.length : Int)) 58)).length) c59) (by exact xa) ?_
 simp only [lay]
 refine lv (.int .i64 0) (by exact xa) ?_
 simp only [lay]
 refine wn ?_
 refine wp_ret ?_
 try simp only [Exit.then]
 have e : (m.write (pse6 s t (8 + m.bl.length) 58), m.err) = (m.bytes (pse6 s t (8 + (m.bl.length : Int)) 58), 0) := by rw [D7.write, D7.err, if_neg (by omega), if_neg (by omega)]
 have b61 := bt b51 hb54
 exact bodyPost_ret (res_tt Try.results79 rfl rfl) rfl ⟨TwoR.ok e (hO56.more b51.size), b61⟩
theorem szerr_zero {n : Nat} (h : szerr n = 0) : 8 ≤ n ∧ n ≤ 65535 := by
 unfold szerr at h
 split at h
 ·cases h
 ·split at h
  ·cases h
  ·omega
theorem szerr_bad {n : Nat} {l : List Int} (hl : l.length = n) (h : ¬ szerr n = 0) : parse7 l [] = zero7 ∧ perr7 l [] = szerr n := by
 unfold parse7 perr7
 unfold szerr at h ⊢
 rw [hl]
 by_cases h1 : n < 8
 ·rw [if_pos (.inl h1), if_pos h1, if_pos h1]
  exact ⟨rfl, rfl⟩
 ·rw [if_neg h1] at h
  by_cases h2 : 65535 < n
  ·rw [if_pos (.inr (.inl h2)), if_neg h1, if_neg h1, if_pos h2, if_pos h2]
   exact ⟨rfl, rfl⟩
  ·rw [if_neg h2] at h
   exact absurd rfl h
def Par7 (base : Nat) (w' : World) (l ps : List Int) (e : Ending) : Prop := ∃ A c, e = .returned (.tuple #[.agg ((parse7 l ps).cells A c), .int .i64 (perr7 l ps)]) ∧ (parse7 l ps).ok ∧ OwnB w' base (.slice A (parse7 l ps).bl.length c) (parse7 l ps).bl

set_option maxRecDepth 100000 in
set_option maxHeartbeats 4000000 in
theorem rparse7_any (A : Option Addr) (n c : Nat) (l : List Int) (Ap : Option Addr) (np cp : Nat) (ps : List Int) (w : World) (y : By w.heap.size w A n c l) (yp : By w.heap.size w Ap np cp ps) (h8 : 8 ≤ l.length) (hm : l.length ≤ 65535) (hp : np ≤ 65536) :
  Calls Try.prog 63 #[.slice A n c, .slice Ap np cp] w fun e w' => Par7 w.heap.size w' l ps e ∧ Below w.heap.size w w' := by
 have yl := y.len
 have ypl := yp.len
 have t4 := getD_byte y.rng 4
 have t5 := getD_byte y.rng 5
 have t6 := getD_byte y.rng 6
 have t7 := getD_byte y.rng 7
 go_enter Try.func63, Try.ntmps63
 refine wp_sr ?_
 refine lz (oa #[.int .u8 0, .int .u8 0, .int .u32 0, .slice none 0 0] ?_)
 intro g1 W2 hg3 ge4 sz5 hb6
 have z7 := hb6.size
 simp only [lay]
 refine lv (.int .i64 0) (by exact xa) ?_
 simp only [lay]
 refine wn ?_
 refine wp_seq ?_
 refine wp_sr ?_
 refine lv (.slice Ap np cp) (by exact xm) ?_
 simp only [lay]
 refine lv (.slice A n c) (by exact xm) ?_
 simp only [lay]
 refine lz (ow_build [.slice Ap np cp, .slice A n c] rfl Try.underlying106 (by kernel_rfl) (by kernel_rfl) rfl (by decide) (by decide) (by first | rfl | (simp only [List.map_toArray, List.map_cons, List.map_nil] <;> rfl)) (by simp [Value.cells]) ?_)
 intro g8 W9 hg10 ge11 sz12 hb13
 have z14 := hb13.size
 simp only [lay]
 have b15 := bt hb6 hb13
 have by16 := yp.to b15
 have by17 := y.to b15
 refine lz (ow_call (fun v w' => v = .int .u16 (sumw (ps ++ l)) ∧ Below W9.heap.size W9 w') (by exact xk Try.func60) (rfold2 hg10 by16 by17 (by omega)) ?_)
 rintro _ W18 ⟨rfl, hb19⟩
 have z20 := hb19.size
 simp only [lay]
 by_cases q21 : sumw (ps ++ l) = 65535
 case pos =>
  refine lv (.bool false) (by exact neq_int_eq (by exact rfl) (by exact rfl) (by exact rfl) (by first | assumption | omega)) ?_
  simp only [lay]
  refine wn ?_
  refine cF9 ?_
  refine wp_skip ?_
  change Code.wp _ _ _ _ _
  refine wp_seq ?_
  refine rg_drawn W18.heap.size (by kernel_rfl) (Nat.le_refl _) ?_
  intro W22 hb23 hs24 hS25
  have z26 := hb23.size
  refine te 0 (.slice A n c) hS25 rfl (by intro _ _; exact xm) ?_
  simp only [lay]
  obtain ⟨b27, o28, hA29⟩ := y.form (k := 4) (by omega)
  refine te 1 (.pointer (some ⟨b27, o28 + 4, none⟩)) hS25 rfl (by intro _ _; exact xi 4 Try.underlying25 hA29) ?_
  simp only [lay]
  have b30 := bt b15 hb19
  have by31 := y.to b30
  refine te 2 (.int .u8 (l.getD 4 0)) hS25 rfl (by intro _ h; exact xc Try.underlying5 ((by31.to h).atE (k := 4) hA29 (by omega))) ?_
  simp only [lay]
  refine te 3 (.int .u32 (l.getD 4 0)) hS25 rfl (by intro _ _; exact xv (conv_u32 5 33 .u8 (l.getD 4 0) (by kernel_rfl) Try.underlying33 (in_rng (getD_byte y.rng 4)).1 (in_rng (getD_byte y.rng 4)).2.2 _)) ?_
  simp only [lay]
  refine te 4 (.int .u32 ((l.getD 4 0) * 16777216)) hS25 rfl (by intro _ _; exact xb (w_shl32 _ 24 _ ((l.getD 4 0) * 16777216) rfl (by decide) (by have := (getD_byte y.rng 4); omega) _)) ?_
  simp only [lay]
  refine te 5 (.slice A n c) hS25 rfl (by intro _ _; exact xm) ?_
  simp only [lay]
  refine te 6 (.pointer (some ⟨b27, o28 + 5, none⟩)) hS25 rfl (by intro _ _; exact xi 5 Try.underlying25 hA29) ?_
  simp only [lay]
  refine te 7 (.int .u8 (l.getD 5 0)) hS25 rfl (by intro _ h; exact xc Try.underlying5 ((by31.to h).atE (k := 5) hA29 (by omega))) ?_
  simp only [lay]
  refine te 8 (.int .u32 (l.getD 5 0)) hS25 rfl (by intro _ _; exact xv (conv_u32 5 33 .u8 (l.getD 5 0) (by kernel_rfl) Try.underlying33 (in_rng (getD_byte y.rng 5)).1 (in_rng (getD_byte y.rng 5)).2.2 _)) ?_
  simp only [lay]
  refine te 9 (.int .u32 ((l.getD 5 0) * 65536)) hS25 rfl (by intro _ _; exact xb (w_shl32 _ 16 _ ((l.getD 5 0) * 65536) rfl (by decide) (by have := (getD_byte y.rng 5); omega) _)) ?_
  simp only [lay]
  refine te 10 (.int .u32 ((l.getD 4 0) * 16777216 + (l.getD 5 0) * 65536)) hS25 rfl (by intro _ _; exact xb (b_add32 _ ((l.getD 4 0) * 16777216 + (l.getD 5 0) * 65536) rfl (by omega) _)) ?_
  simp only [lay]
  refine te 11 (.slice A n c) hS25 rfl (by intro _ _; exact xm) ?_
  simp only [lay]
  refine te 12 (.pointer (some ⟨b27, o28 + 6, none⟩)) hS25 rfl (by intro _ _; exact xi 6 Try.underlying25 hA29) ?_
  simp only [lay]
  refine te 13 (.int .u8 (l.getD 6 0)) hS25 rfl (by intro _ h; exact xc Try.underlying5 ((by31.to h).atE (k := 6) hA29 (by omega))) ?_
  simp only [lay]
  refine te 14 (.int .u32 (l.getD 6 0)) hS25 rfl (by intro _ _; exact xv (conv_u32 5 33 .u8 (l.getD 6 0) (by kernel_rfl) Try.underlying33 (in_rng (getD_byte y.rng 6)).1 (in_rng (getD_byte y.rng 6)).2.2 _)) ?_
  simp only [lay]
  refine te 15 (.int .u32 ((l.getD 6 0) * 256)) hS25 rfl (by intro _ _; exact xb (w_shl32 _ 8 _ ((l.getD 6 0) * 256) rfl (by decide) (by have := (getD_byte y.rng 6); omega) _)) ?_
  simp only [lay]
  refine te 16 (.int .u32 ((l.getD 4 0) * 16777216 + (l.getD 5 0) * 65536 + (l.getD 6 0) * 256)) hS25 rfl (by intro _ _; exact xb (b_add32 _ ((l.getD 4 0) * 16777216 + (l.getD 5 0) * 65536 + (l.getD 6 0) * 256) rfl (by omega) _)) ?_
  simp only [lay]
  refine te 17 (.slice A n c) hS25 rfl (by intro _ _; exact xm) ?_
  simp only [lay]
  refine te 18 (.pointer (some ⟨b27, o28 + 7, none⟩)) hS25 rfl (by intro _ _; exact xi 7 Try.underlying25 hA29) ?_
  simp only [lay]
  refine te 19 (.int .u8 (l.getD 7 0)) hS25 rfl (by intro _ h; exact xc Try.underlying5 ((by31.to h).atE (k := 7) hA29 (by omega))) ?_
  simp only [lay]
  refine te 20 (.int .u32 (l.getD 7 0)) hS25 rfl (by intro _ _; exact xv (conv_u32 5 33 .u8 (l.getD 7 0) (by kernel_rfl) Try.underlying33 (in_rng (getD_byte y.rng 7)).1 (in_rng (getD_byte y.rng 7)).2.2 _)) ?_
  simp only [lay]
  refine te 21 (.int .u32 ((l.getD 4 0) * 16777216 + (l.getD 5 0) * 65536 + (l.getD 6 0) * 256 + l.getD 7 0)) hS25 rfl (by intro _ _; exact xb (b_add32 _ ((l.getD 4 0) * 16777216 + (l.getD 5 0) * 65536 + (l.getD 6 0) * 256 + l.getD 7 0) rfl (by omega) _)) ?_
  simp only [lay]
  refine te 22 (.int .u32 ((l.getD 4 0) * 16777216 + (l.getD 5 0) * 65536 + (l.getD 6 0) * 256 + l.getD 7 0)) hS25 rfl (by intro _ _; exact xa) ?_
  simp only [lay]
  refine wpAnyH_done (by kernel_rfl) ?_ _
  change Code.wp _ _ _ _ _
  refine wp_seq ?_
  refine rg_drawn g1 (by kernel_rfl) (by omega) ?_
  intro W32 hb33 hs34 hS35
  have z36 := hb33.size
  refine te 0 (.slice A n c) hS35 rfl (by intro _ _; exact xm) ?_
  simp only [lay]
  refine te 1 (.pointer (some ⟨b27, o28 + 0, none⟩)) hS35 rfl (by intro _ _; exact xi 0 Try.underlying25 hA29) ?_
  simp only [lay]
  have l37 : w.heap.size ≤ g1 := Nat.le_of_eq ge4.symm
  have b38 := bt b30 hb23
  refine te 2 (.int .u8 (l.getD 0 0)) hS35 rfl (by intro _ h; exact xc Try.underlying5 ((y.to (b38.trans (Below.mono h l37))).atE (k := 0) hA29 (by omega))) ?_
  simp only [lay]
  refine te 3 (.slice A n c) hS35 rfl (by intro _ _; exact xm) ?_
  simp only [lay]
  refine te 4 (.pointer (some ⟨b27, o28 + 1, none⟩)) hS35 rfl (by intro _ _; exact xi 1 Try.underlying25 hA29) ?_
  simp only [lay]
  refine te 5 (.int .u8 (l.getD 1 0)) hS35 rfl (by intro _ h; exact xc Try.underlying5 ((y.to (b38.trans (Below.mono h l37))).atE (k := 1) hA29 (by omega))) ?_
  simp only [lay]
  refine te 6 (.int .u32 ((l.getD 4 0) * 16777216 + (l.getD 5 0) * 65536 + (l.getD 6 0) * 256 + l.getD 7 0)) hS35 rfl (by intro _ _; exact xm) ?_
  simp only [lay]
  refine te 8 (.slice A n c) hS35 rfl (by intro _ _; exact xm) ?_
  simp only [lay]
  have b39 := bt b38 hb33
  have by40 := y.to b39
  obtain ⟨A41, c42, hs43, y44⟩ := by40.from_ (P := Try.prog) 25 Try.underlying25 (by kernel_rfl) (k := 8) (by omega)
  refine te 9 (.slice A41 (n - 8) c42) hS35 rfl (by intro _ _; exact ex_slice (by exact rfl) (by exact rfl) (hs43 _)) ?_
  simp only [lay]
  refine t1 7 rfl (ow_build0 rfl Try.underlying25 (by kernel_rfl) ?_)
  intro g45 W46 hg47 ge48 sz49 hb50
  have z51 := hb50.size
  have hO52 : OwnB W46 W32.heap.size (.slice (some ⟨g45, 0, none⟩) 0 0) [] := OwnB.blk (l := []) hg47 (Nat.le_of_eq ge48.symm) rfl InB.nil (by simp)
  refine ⟨(Below.trans hS35 (hb50.mono (Nat.le_trans (by omega) hS35.size))), ?_⟩
  have hS53 := (Below.trans hS35 (hb50.mono (Nat.le_trans (by omega) hS35.size)))
  simp only [lay]
  have by59 := y44.to hb50
  refine t1 10 rfl (ow_app (.tmp 42) (.tmp 44) 25 rfl Try.underlying25 info8 _ _ [] rfl hO52 _ _ _ _ (l.drop 8) rfl by59 (by simp only [List.length_nil]; omega) hb50.size ?_)
  intro v58 W54 hO55 hb56 hgr57
  have z60 := hb56.size
  have hO61 : OwnB W54 W32.heap.size v58 (l.drop 8) := hO55
  obtain ⟨A62, c63, rfl, y64⟩ := hO61.by_
  refine ⟨(Below.trans hS53 (hb56.mono (by omega))), ?_⟩
  have hS65 := (Below.trans hS53 (hb56.mono (by omega)))
  simp only [lay]
  refine te 11 (.agg #[.int .u8 (l.getD 0 0), .int .u8 (l.getD 1 0), .int .u32 ((l.getD 4 0) * 16777216 + (l.getD 5 0) * 65536 + (l.getD 6 0) * 256 + l.getD 7 0), .slice A62 ((l.drop 8).length) c63]) hS65 rfl (by intro _ _; kernel_rfl) ?_
  simp only [lay]
  have b70 := bt hb13 hb19
  have b71 := bt b70 hb23
  have b72 := bt b71 hb33
  have b73 := bt b72 hb50
  have l74 := Nat.le_trans b72.size (Nat.le_refl _)
  have b75 := b73.trans (hb56.mono l74)
  have has76 := hg3.to b75
  refine t1 12 rfl (ow_st 46 (.tmp 4) (.tmp 46) g1 #[.int .u8 (l.getD 0 0), .int .u8 (l.getD 1 0), .int .u32 ((l.getD 4 0) * 16777216 + (l.getD 5 0) * 65536 + (l.getD 6 0) * 256 + l.getD 7 0), .slice A62 ((l.drop 8).length) c63] _ _ rfl (by exact rfl) (by exact rfl) has76 (by kernel_rfl) rfl (by kernel_rfl) ?_)
  intro W66 hg67 bs68 hb69
  have b77 := bt hb19 hb23
  have b78 := bt b77 hb33
  have b79 := bt b78 hb50
  have l80 := Nat.le_trans b78.size (Nat.le_refl _)
  have b81 := b79.trans (hb56.mono l80)
  have has82 := hg10.to b81
  have z83 := hb69.size
  have has84 := has82.but6 bs68 (by omega)
  have own85 := hO61.but6 bs68 (by omega)
  refine ⟨(Below.trans hS65 hb69), ?_⟩
  have hS86 := (Below.trans hS65 hb69)
  simp only [lay]
  refine te 13 (.int .i64 0) hS86 rfl (by intro _ _; exact xa) ?_
  simp only [lay]
  refine wpAnyH_done (by kernel_rfl) ?_ _
  change Code.wp _ _ _ _ _
  refine wp_ret ?_
  try simp only [Exit.then]
  have e1 := parse7_eq h8 hm (ps := ps)
  rw [if_neg (by omega)] at e1
  have e2 := perr7_eq h8 hm (ps := ps)
  rw [if_neg (by omega)] at e2
  have h4 : Has _ _ (.cells ((of7 l).cells A62 c63) 46 (0, 0)) := hg67
  have b87 := bt b39 hb50
  have l88 := Nat.le_trans b39.size (Nat.le_refl _)
  have b89 := b87.trans (hb56.mono l88)
  have b90 := b89.trans (hb69.mono l37)
  exact bodyPost_ret (res_cell2 Try.results63 rfl (h4.load (P := Try.prog) 46 Try.underlying46 rfl (by kernel_rfl)) rfl) rfl ⟨⟨A62, c63, by rw [e1, e2]; rfl, by rw [e1]; exact of7_ok y.rng, by rw [e1]; exact (own85.more b39.size)⟩, b90⟩
 refine lv (.bool true) (by exact neq_int_ne (by exact rfl) (by exact rfl) (by exact rfl) (by first | assumption | omega)) ?_
 simp only [lay]
 refine wn ?_
 refine cT9 ?_
 refine wp_sr ?_
 refine lv (.agg #[.int .u8 0, .int .u8 0, .int .u32 0, .slice none 0 0]) (by kernel_rfl) ?_
 simp only [lay]
 have b95 := bt hb13 hb19
 have has96 := hg3.to b95
 refine lz (ow_st 46 (.tmp 4) (.tmp 12) g1 #[.int .u8 0, .int .u8 0, .int .u32 0, .slice none 0 0] _ _ rfl (by exact rfl) (by exact rfl) has96 (by kernel_rfl) rfl (by kernel_rfl) ?_)
 intro W91 hg92 bs93 hb94
 have has97 := hg10.to hb19
 have z98 := hb94.size
 have has99 := has97.but6 bs93 (by omega)
 simp only [lay]
 refine lv (.int .i64 71) (by exact xa) ?_
 simp only [lay]
 refine wn ?_
 refine wp_ret ?_
 try simp only [Exit.then]
 have e1 := parse7_eq h8 hm (ps := ps)
 rw [if_pos (by omega)] at e1
 have e2 := perr7_eq h8 hm (ps := ps)
 rw [if_pos (by omega)] at e2
 have b100 := bt b15 hb19
 have l101 : w.heap.size ≤ g1 := Nat.le_of_eq ge4.symm
 have b102 := b100.trans (hb94.mono l101)
 exact bodyPost_ret (res_cell2 Try.results63 rfl (hg92.load (P := Try.prog) 46 Try.underlying46 rfl (by kernel_rfl)) rfl) rfl ⟨⟨none, 0, by rw [e1, e2]; rfl, by rw [e1]; exact zero7_ok, by rw [e1]; exact OwnB.nil _ _⟩, b102⟩
set_option maxRecDepth 100000 in
set_option maxHeartbeats 4000000 in
theorem rparse4m_any (A : Option Addr) (n c : Nat) (l : List Int) (w : World) (y : By w.heap.size w A n c l) :
  Calls Try.prog 21 #[.slice A n c] w fun e w' => Par7 w.heap.size w' l [] e ∧ Below w.heap.size w w' := by
 have yl := y.len
 go_enter Try.func21, Try.ntmps21
 refine wp_sr ?_
 refine lz (oa #[.int .u8 0, .int .u8 0, .int .u32 0, .slice none 0 0] ?_)
 intro g1 W2 hg3 ge4 sz5 hb6
 have z7 := hb6.size
 simp only [lay]
 refine lv (.int .i64 0) (by exact xa) ?_
 simp only [lay]
 refine wn ?_
 refine wp_sr ?_
 refine lv (.slice A n c) (by exact xm) ?_
 simp only [lay]
 refine lz (ow_same (.int .i64 (szerr n)) (by exact xk Try.func62) (rsize7_any _ n _ W2 (Nat.le_trans y.cap y.big)) ?_)
 simp only [lay]
 refine lv (.int .i64 (szerr n)) (by exact xa) ?_
 simp only [lay]
 refine wn ?_
 refine wp_seq ?_
 refine wp_sr ?_
 refine lv (.int .i64 (szerr n)) (by exact xm) ?_
 simp only [lay]
 by_cases q8 : szerr n = 0
 case pos =>
  have hz2 := szerr_zero q8
  refine lv (.bool false) (by exact neq_int_eq (by exact rfl) (by exact rfl) (by exact rfl) (by first | assumption | omega)) ?_
  simp only [lay]
  refine wn ?_
  refine cF9 ?_
  refine wp_skip ?_
  change Code.wp _ _ _ _ _
  refine wp_sr ?_
  refine lv (.slice A n c) (by exact xm) ?_
  simp only [lay]
  have by9 := y.to hb6
  refine lz (ow_call (fun v w' => (∃ A' c', v = .tuple #[.agg ((parse7 l []).cells A' c'), .int .i64 (perr7 l [])] ∧ (parse7 l []).ok ∧ OwnB w' W2.heap.size (.slice A' (parse7 l []).bl.length c') (parse7 l []).bl) ∧ Below W2.heap.size W2 w') (by exact xk Try.func63) ((rparse7_any _ _ _ l _ _ _ [] W2 by9 (By.nil _ _ none (by decide)) (by omega) (by omega) (by decide)).mono (by rintro e w' ⟨⟨A', c', rfl, hk, ho⟩, hb⟩; exact ⟨_, rfl, ⟨A', c', rfl, hk, ho⟩, hb⟩)) ?_)
  rintro _ W10 ⟨⟨A12, c13, rfl, hk14, hO15⟩, hb11⟩
  have z16 := hb11.size
  simp only [lay]
  refine lv (.agg ((parse7 l []).cells A12 c13)) (by exact xe) ?_
  simp only [lay]
  refine lv (.int .i64 (perr7 l [])) (by exact xe) ?_
  simp only [lay]
  have has21 := hg3.to hb11
  refine lz (ow_st 46 (.tmp 2) (.tmp 13) g1 ((parse7 l []).cells A12 c13) _ _ rfl (by exact rfl) (by exact rfl) has21 (by kernel_rfl) rfl (by kernel_rfl) ?_)
  intro W17 hg18 bs19 hb20
  have z22 := hb20.size
  have own23 := hO15.but6 bs19 (by omega)
  simp only [lay]
  refine lv (.int .i64 (perr7 l [])) (by exact xa) ?_
  simp only [lay]
  refine wn ?_
  refine wp_ret ?_
  try simp only [Exit.then]
  have b24 := bt hb6 hb11
  have l25 : w.heap.size ≤ g1 := Nat.le_of_eq ge4.symm
  have b26 := b24.trans (hb20.mono l25)
  exact bodyPost_ret (res_cell2 Try.results21 rfl (hg18.load (P := Try.prog) 46 Try.underlying46 rfl (by kernel_rfl)) rfl) rfl ⟨⟨_, _, rfl, hk14, (own23.more hb6.size)⟩, b26⟩
 have hz := q8
 refine lv (.bool true) (by exact neq_int_ne (by exact rfl) (by exact rfl) (by exact rfl) (by first | assumption | omega)) ?_
 simp only [lay]
 refine wn ?_
 refine cT9 ?_
 refine wp_sr ?_
 refine lv (.agg #[.int .u8 0, .int .u8 0, .int .u32 0, .slice none 0 0]) (by kernel_rfl) ?_
 simp only [lay]
 refine lv (.int .i64 (szerr n)) (by exact xm) ?_
 simp only [lay]
 refine lz (ow_st 46 (.tmp 2) (.tmp 9) g1 #[.int .u8 0, .int .u8 0, .int .u32 0, .slice none 0 0] _ _ rfl (by exact rfl) (by exact rfl) hg3 (by kernel_rfl) rfl (by kernel_rfl) ?_)
 intro W27 hg28 bs29 hb30
 have z31 := hb30.size
 simp only [lay]
 refine lv (.int .i64 (szerr n)) (by exact xa) ?_
 simp only [lay]
 refine wn ?_
 refine wp_ret ?_
 try simp only [Exit.then]
 obtain ⟨e1, e2⟩ := szerr_bad (l := l) yl hz
 have l32 : w.heap.size ≤ g1 := Nat.le_of_eq ge4.symm
 have b33 := hb6.trans (hb30.mono l32)
 exact bodyPost_ret (res_cell2 Try.results21 rfl (hg28.load (P := Try.prog) 46 Try.underlying46 rfl (by kernel_rfl)) rfl) rfl ⟨⟨none, 0, by rw [e1, e2]; rfl, by rw [e1]; exact zero7_ok, by rw [e1]; exact OwnB.nil _ _⟩, b33⟩
end Go.Proofs.Ytijnifbpbgckgaa
