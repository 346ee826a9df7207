/-
  Lemmas and walks for the row of TosixLong (part 33 of 37).
-/
import Derived.Test.YtijnifbpbgckgaaTlAD
import Derived.Test.YtijnifbpbgckgaaTlAG
import Derived.Test.YtijnifbpbgckgaaTlBF
set_option linter.unusedVariables false
set_option linter.unusedSimpArgs false
namespace Go.Proofs.Ytijnifbpbgckgaa
open Go.RowKit Go.Shelf
attribute [local irreducible] wpList Code.wp Oper.wp wpOp wpAnyH

set_option maxRecDepth 100000 in
theorem rsize7_any (A : Option Addr) (n c : Nat) (w : World) (hn : n ≤ 9223372036854775807) :
  Calls Try.prog 62 #[.slice A n c] w fun e w' => e = .returned (.int .i64 (szerr n)) ∧ w = w' := by
 go_enter Try.func62, Try.ntmps62
 refine wp_sr ?_
 refine lv (.int .i64 0) (by exact xa) ?_
 simp only [lay]
 refine wn ?_
 refine wp_seq ?_
 refine wp_sr ?_
 refine lv (.slice A n c) (by exact xm) ?_
 simp only [lay]
 refine lv (.int .i64 (n : Int)) (by exact xz Try.underlying25) ?_
 simp only [lay]
 by_cases q1 : (n : Int) < 8
 case pos =>
  refine lv (.bool true) (by exact ex_lss (by exact rfl) (by exact rfl) (by exact rfl) (decide_eq_true (by first | assumption | omega | decide))) ?_
  simp only [lay]
  refine wn ?_
  refine wp_cond_true (by exact rfl) ?_
  refine wp_sr ?_
  refine lv (.int .i64 70) (by exact xa) ?_
  simp only [lay]
  refine wn ?_
  refine wp_ret ?_
  try simp only [Exit.then]
  have e : szerr n = 70 := by unfold szerr; repeat (first | rw [if_pos (by first | assumption | omega)] | rw [if_neg (by first | assumption | omega)])
  exact bodyPost_ret (res_one Try.results62 rfl) rfl ⟨by rw [e]; rfl, rfl⟩
 refine lv (.bool false) (by exact ex_lss (by exact rfl) (by exact rfl) (by exact rfl) (decide_eq_false (by first | assumption | omega | decide))) ?_
 simp only [lay]
 refine wn ?_
 refine wp_cond_false (by exact rfl) ?_
 refine wp_skip ?_
 change Code.wp _ _ _ _ _
 refine wp_seq ?_
 refine wp_sr ?_
 refine lv (.slice A n c) (by exact xm) ?_
 simp only [lay]
 refine lv (.int .i64 (n : Int)) (by exact xz Try.underlying25) ?_
 simp only [lay]
 by_cases q2 : (n : Int) > 65535
 case pos =>
  refine lv (.bool true) (by exact ex_gtr (by exact rfl) (by exact rfl) (by exact rfl) (decide_eq_true (by first | assumption | omega | decide))) ?_
  simp only [lay]
  refine wn ?_
  refine wp_cond_true (by exact rfl) ?_
  refine wp_sr ?_
  refine lv (.int .i64 2) (by exact xa) ?_
  simp only [lay]
  refine wn ?_
  refine wp_ret ?_
  try simp only [Exit.then]
  have e : szerr n = 2 := by unfold szerr; repeat (first | rw [if_pos (by first | assumption | omega)] | rw [if_neg (by first | assumption | omega)])
  exact bodyPost_ret (res_one Try.results62 rfl) rfl ⟨by rw [e]; rfl, rfl⟩
 refine lv (.bool false) (by exact ex_gtr (by exact rfl) (by exact rfl) (by exact rfl) (decide_eq_false (by first | assumption | omega | decide))) ?_
 simp only [lay]
 refine wn ?_
 refine wp_cond_false (by exact rfl) ?_
 refine wp_skip ?_
 change Code.wp _ _ _ _ _
 refine wp_sr ?_
 refine lv (.int .i64 0) (by exact xa) ?_
 simp only [lay]
 refine wn ?_
 refine wp_ret ?_
 try simp only [Exit.then]
 have e : szerr n = 0 := by unfold szerr; repeat (first | rw [if_pos (by first | assumption | omega)] | rw [if_neg (by first | assumption | omega)])
 exact bodyPost_ret (res_one Try.results62 rfl) rfl ⟨by rw [e]; rfl, rfl⟩
theorem szerr_zero {n : Nat} (h : szerr n = 0) : 8 ≤ n ∧ n ≤ 65535 := by
 unfold szerr at h
 split at h
 ·cases h
 ·split at h
  ·cases h
  ·omega
theorem szerr_bad {n : Nat} {l : List Int} (hl : l.length = n) (h : ¬ szerr n = 0) : parse7 l [] = zero7 ∧ perr7 l [] = szerr n := by
 unfold parse7 perr7
 unfold szerr at h ⊢
 rw [hl]
 by_cases h1 : n < 8
 ·rw [if_pos (.inl h1), if_pos h1, if_pos h1]
  exact ⟨rfl, rfl⟩
 ·rw [if_neg h1] at h
  by_cases h2 : 65535 < n
  ·rw [if_pos (.inr (.inl h2)), if_neg h1, if_neg h1, if_pos h2, if_pos h2]
   exact ⟨rfl, rfl⟩
  ·rw [if_neg h2] at h
   exact absurd rfl h
def Par7 (base : Nat) (w' : World) (l ps : List Int) (e : Ending) : Prop := ∃ A c, e = .returned (.tuple #[.agg ((parse7 l ps).cells A c), .int .i64 (perr7 l ps)]) ∧ (parse7 l ps).ok ∧ OwnB w' base (.slice A (parse7 l ps).bl.length c) (parse7 l ps).bl

set_option maxRecDepth 100000 in
set_option maxHeartbeats 4000000 in
theorem rparse7_any (A : Option Addr) (n c : Nat) (l : List Int) (Ap : Option Addr) (np cp : Nat) (ps : List Int) (w : World) (y : By w.heap.size w A n c l) (yp : By w.heap.size w Ap np cp ps) (h8 : 8 ≤ l.length) (hm : l.length ≤ 65535) (hp : np ≤ 65536) :
  Calls Try.prog 63 #[.slice A n c, .slice Ap np cp] w fun e w' => Par7 w.heap.size w' l ps e ∧ Below w.heap.size w w' := by
 have yl := y.len
 have ypl := yp.len
 have t4 := getD_byte y.rng 4
 have t5 := getD_byte y.rng 5
 have t6 := getD_byte y.rng 6
 have t7 := getD_byte y.rng 7
 go_enter Try.func63, Try.ntmps63
 refine wp_sr ?_
 refine lz (oa #[.int .u8 0, .int .u8 0, .int .u32 0, .slice none 0 0] ?_)
 intro g1 W2 hg3 ge4 sz5 hb6
 have z7 := hb6.size
 simp only [lay]
 refine lv (.int .i64 0) (by exact xa) ?_
 simp only [lay]
 refine wn ?_
 refine wp_seq ?_
 refine wp_sr ?_
 refine lv (.slice Ap np cp) (by exact xm) ?_
 simp only [lay]
 refine lv (.slice A n c) (by exact xm) ?_
 simp only [lay]
 refine lz (ow_build [.slice Ap np cp, .slice A n c] rfl Try.underlying106 (by kernel_rfl) (by kernel_rfl) rfl (by decide) (by decide) (by first | rfl | (simp only [List.map_toArray, List.map_cons, List.map_nil] <;> rfl)) (by simp [Value.cells]) ?_)
 intro g8 W9 hg10 ge11 sz12 hb13
 have z14 := hb13.size
 simp only [lay]
 have b15 := bt hb6 hb13
 have by16 := yp.to b15
 have by17 := y.to b15
 refine lz (ow_call (fun v w' => v = .int .u16 (sumw (ps ++ l)) ∧ Below W9.heap.size W9 w') (by exact xk Try.func60) (rfold2 hg10 by16 by17 (by omega)) ?_)
 rintro _ W18 ⟨rfl, hb19⟩
 have z20 := hb19.size
 simp only [lay]
 by_cases q21 : sumw (ps ++ l) = 65535
 case pos =>
  refine lv (.bool false) (by exact neq_int_eq (by exact rfl) (by exact rfl) (by exact rfl) (by first | assumption | omega)) ?_
  simp only [lay]
  refine wn ?_
  refine wp_cond_false (by exact rfl) ?_
  refine wp_skip ?_
  change Code.wp _ _ _ _ _
  refine wp_seq ?_
  refine rg_drawn W18.heap.size (by kernel_rfl) (Nat.le_refl _) ?_
  intro W22 hb23 hs24 hS25
  have z26 := hb23.size
  refine te 0 (.slice A n c) hS25 rfl (by intro _ _; exact xm) ?_
  simp only [lay]
  obtain ⟨b27, o28, hA29⟩ := y.form (k := 4) (by omega)
  refine te 1 (.pointer (some ⟨b27, o28 + 4, none⟩)) hS25 rfl (by intro _ _; exact xi 4 Try.underlying25 hA29) ?_
  simp only [lay]
  have b30 := bt b15 hb19
  have by31 := y.to b30
  refine te 2 (.int .u8 (l.getD 4 0)) hS25 rfl (by intro _ h; exact xc Try.underlying5 ((by31.to h).atE (k := 4) hA29 (by omega))) ?_
  simp only [lay]
  refine te 3 (.int .u32 (l.getD 4 0)) hS25 rfl (by intro _ _; exact xv (conv_u32 5 33 .u8 (l.getD 4 0) (by kernel_rfl) Try.underlying33 (in_rng (getD_byte y.rng 4)).1 (in_rng (getD_byte y.rng 4)).2.2 _)) ?_
  simp only [lay]
  refine te 4 (.int .u32 ((l.getD 4 0) * 16777216)) hS25 rfl (by intro _ _; exact xb (w_shl32 _ 24 _ ((l.getD 4 0) * 16777216) rfl (by decide) (by have := (getD_byte y.rng 4); omega) _)) ?_
  simp only [lay]
  refine te 5 (.slice A n c) hS25 rfl (by intro _ _; exact xm) ?_
  simp only [lay]
  refine te 6 (.pointer (some ⟨b27, o28 + 5, none⟩)) hS25 rfl (by intro _ _; exact xi 5 Try.underlying25 hA29) ?_
  simp only [lay]
  refine te 7 (.int .u8 (l.getD 5 0)) hS25 rfl (by intro _ h; exact xc Try.underlying5 ((by31.to h).atE (k := 5) hA29 (by omega))) ?_
  simp only [lay]
  refine te 8 (.int .u32 (l.getD 5 0)) hS25 rfl (by intro _ _; exact xv (conv_u32 5 33 .u8 (l.getD 5 0) (by kernel_rfl) Try.underlying33 (in_rng (getD_byte y.rng 5)).1 (in_rng (getD_byte y.rng 5)).2.2 _)) ?_
  simp only [lay]
  refine te 9 (.int .u32 ((l.getD 5 0) * 65536)) hS25 rfl (by intro _ _; exact xb (w_shl32 _ 16 _ ((l.getD 5 0) * 65536) rfl (by decide) (by have := (getD_byte y.rng 5); omega) _)) ?_
  simp only [lay]
  refine te 10 (.int .u32 ((l.getD 4 0) * 16777216 + (l.getD 5 0) * 65536)) hS25 rfl (by intro _ _; exact xb (b_add32 _ ((l.getD 4 0) * 16777216 + (l.getD 5 0) * 65536) rfl (by omega) _)) ?_
  simp only [lay]
  refine te 11 (.slice A n c) hS25 rfl (by intro _ _; exact xm) ?_
  simp only [lay]
  refine te 12 (.pointer (some ⟨b27, o28 + 6, none⟩)) hS25 rfl (by intro _ _; exact xi 6 Try.underlying25 hA29) ?_
  simp only [lay]
  refine te 13 (.int .u8 (l.getD 6 0)) hS25 rfl (by intro _ h; exact xc Try.underlying5 ((by31.to h).atE (k := 6) hA29 (by omega))) ?_
  simp only [lay]
  refine te 14 (.int .u32 (l.getD 6 0)) hS25 rfl (by intro _ _; exact xv (conv_u32 5 33 .u8 (l.getD 6 0) (by kernel_rfl) Try.underlying33 (in_rng (getD_byte y.rng 6)).1 (in_rng (getD_byte y.rng 6)).2.2 _)) ?_
  simp only [lay]
  refine te 15 (.int .u32 ((l.getD 6 0) * 256)) hS25 rfl (by intro _ _; exact xb (w_shl32 _ 8 _ ((l.getD 6 0) * 256) rfl (by decide) (by have := (getD_byte y.rng 6); omega) _)) ?_
  simp only [lay]
  refine te 16 (.int .u32 ((l.getD 4 0) * 16777216 + (l.getD 5 0) * 65536 + (l.getD 6 0) * 256)) hS25 rfl (by intro _ _; exact xb (b_add32 _ ((l.getD 4 0) * 16777216 + (l.getD 5 0) * 65536 + (l.getD 6 0) * 256) rfl (by omega) _)) ?_
  simp only [lay]
  refine te 17 (.slice A n c) hS25 rfl (by intro _ _; exact xm) ?_
  simp only [lay]
  refine te 18 (.pointer (some ⟨b27, o28 + 7, none⟩)) hS25 rfl (by intro _ _; exact xi 7 Try.underlying25 hA29) ?_
  simp only [lay]
  refine te 19 (.int .u8 (l.getD 7 0)) hS25 rfl (by intro _ h; exact xc Try.underlying5 ((by31.to h).atE (k := 7) hA29 (by omega))) ?_
  simp only [lay]
  refine te 20 (.int .u32 (l.getD 7 0)) hS25 rfl (by intro _ _; exact xv (conv_u32 5 33 .u8 (l.getD 7 0) (by kernel_rfl) Try.underlying33 (in_rng (getD_byte y.rng 7)).1 (in_rng (getD_byte y.rng 7)).2.2 _)) ?_
  simp only [lay]
  refine te 21 (.int .u32 ((l.getD 4 0) * 16777216 + (l.getD 5 0) * 65536 + (l.getD 6 0) * 256 + l.getD 7 0)) hS25 rfl (by intro _ _; exact xb (b_add32 _ ((l.getD 4 0) * 16777216 + (l.getD 5 0) * 65536 + (l.getD 6 0) * 256 + l.getD 7 0) rfl (by omega) _)) ?_
  simp only [lay]
  refine te 22 (.int .u32 ((l.getD 4 0) * 16777216 + (l.getD 5 0) * 65536 + (l.getD 6 0) * 256 + l.getD 7 0)) hS25 rfl (by intro _ _; exact xa) ?_
  simp only [lay]
  refine wpAnyH_done (by kernel_rfl) ?_ _
  change Code.wp _ _ _ _ _
  refine wp_seq ?_
  refine rg_drawn g1 (by kernel_rfl) (by omega) ?_
  intro W32 hb33 hs34 hS35
  have z36 := hb33.size
  refine te 0 (.slice A n c) hS35 rfl (by intro _ _; exact xm) ?_
  simp only [lay]
  refine te 1 (.pointer (some ⟨b27, o28 + 0, none⟩)) hS35 rfl (by intro _ _; exact xi 0 Try.underlying25 hA29) ?_
  simp only [lay]
  have l37 : w.heap.size ≤ g1 := Nat.le_of_eq ge4.symm
  have b38 := bt b30 hb23
  refine te 2 (.int .u8 (l.getD 0 0)) hS35 rfl (by intro _ h; exact xc Try.underlying5 ((y.to (b38.trans (Below.mono h l37))).atE (k := 0) hA29 (by omega))) ?_
  simp only [lay]
  refine te 3 (.slice A n c) hS35 rfl (by intro _ _; exact xm) ?_
  simp only [lay]
  refine te 4 (.pointer (some ⟨b27, o28 + 1, none⟩)) hS35 rfl (by intro _ _; exact xi 1 Try.underlying25 hA29) ?_
  simp only [lay]
  refine te 5 (.int .u8 (l.getD 1 0)) hS35 rfl (by intro _ h; exact xc Try.underlying5 ((y.to (b38.trans (Below.mono h l37))).atE (k := 1) hA29 (by omega))) ?_
  simp only [lay]
  refine te 6 (.int .u32 ((l.getD 4 0) * 16777216 + (l.getD 5 0) * 65536 + (l.getD 6 0) * 256 + l.getD 7 0)) hS35 rfl (by intro _ _; exact xm) ?_
  simp only [lay]
  refine te 8 (.slice A n c) hS35 rfl (by intro _ _; exact xm) ?_
  simp only [lay]
  have b39 := bt b38 hb33
  have by40 := y.to b39
  obtain ⟨A41, c42, hs43, y44⟩ := by40.from_ (P := Try.prog) 25 Try.underlying25 (by kernel_rfl) (k := 8) (by omega)
  refine te 9 (.slice A41 (n - 8) c42) hS35 rfl (by intro _ _; exact ex_slice (by exact rfl) (by exact rfl) (hs43 _)) ?_
  simp only [lay]
  refine t1 7 rfl (ow_build0 rfl Try.underlying25 (by kernel_rfl) ?_)
  intro g45 W46 hg47 ge48 sz49 hb50
  have z51 := hb50.size
  have hO52 : OwnB W46 W32.heap.size (.slice (some ⟨g45, 0, none⟩) 0 0) [] := OwnB.blk (l := []) hg47 (Nat.le_of_eq ge48.symm) rfl InB.nil (by simp)
  refine ⟨(Below.trans hS35 (hb50.mono (Nat.le_trans (by omega) hS35.size))), ?_⟩
  have hS53 := (Below.trans hS35 (hb50.mono (Nat.le_trans (by omega) hS35.size)))
  simp only [lay]
  have by59 := y44.to hb50
  refine t1 10 rfl (ow_app (.tmp 42) (.tmp 44) 25 rfl Try.underlying25 info8 _ _ [] rfl hO52 _ _ _ _ (l.drop 8) rfl by59 (by simp only [List.length_nil]; omega) hb50.size ?_)
  intro v58 W54 hO55 hb56 hgr57
  have z60 := hb56.size
  have hO61 : OwnB W54 W32.heap.size v58 (l.drop 8) := hO55
  obtain ⟨A62, c63, rfl, y64⟩ := hO61.by_
  refine ⟨(Below.trans hS53 (hb56.mono (by omega))), ?_⟩
  have hS65 := (Below.trans hS53 (hb56.mono (by omega)))
  simp only [lay]
  refine te 11 (.agg #[.int .u8 (l.getD 0 0), .int .u8 (l.getD 1 0), .int .u32 ((l.getD 4 0) * 16777216 + (l.getD 5 0) * 65536 + (l.getD 6 0) * 256 + l.getD 7 0), .slice A62 ((l.drop 8).length) c63]) hS65 rfl (by intro _ _; kernel_rfl) ?_
  simp only [lay]
  have b70 := bt hb13 hb19
  have b71 := bt b70 hb23
  have b72 := bt b71 hb33
  have b73 := bt b72 hb50
  have l74 := Nat.le_trans b72.size (Nat.le_refl _)
  have b75 := b73.trans (hb56.mono l74)
  have has76 := hg3.to b75
  refine t1 12 rfl (ow_st 46 (.tmp 4) (.tmp 46) g1 #[.int .u8 (l.getD 0 0), .int .u8 (l.getD 1 0), .int .u32 ((l.getD 4 0) * 16777216 + (l.getD 5 0) * 65536 + (l.getD 6 0) * 256 + l.getD 7 0), .slice A62 ((l.drop 8).length) c63] _ _ rfl (by exact rfl) (by exact rfl) has76 (by kernel_rfl) rfl (by kernel_rfl) ?_)
  intro W66 hg67 bs68 hb69
  have b77 := bt hb19 hb23
  have b78 := bt b77 hb33
  have b79 := bt b78 hb50
  have l80 := Nat.le_trans b78.size (Nat.le_refl _)
  have b81 := b79.trans (hb56.mono l80)
  have has82 := hg10.to b81
  have z83 := hb69.size
  have has84 := has82.but6 bs68 (by omega)
  have own85 := hO61.but6 bs68 (by omega)
  refine ⟨(Below.trans hS65 hb69), ?_⟩
  have hS86 := (Below.trans hS65 hb69)
  simp only [lay]
  refine te 13 (.int .i64 0) hS86 rfl (by intro _ _; exact xa) ?_
  simp only [lay]
  refine wpAnyH_done (by kernel_rfl) ?_ _
  change Code.wp _ _ _ _ _
  refine wp_ret ?_
  try simp only [Exit.then]
  have e1 := parse7_eq h8 hm (ps := ps)
  rw [if_neg (by omega)] at e1
  have e2 := perr7_eq h8 hm (ps := ps)
  rw [if_neg (by omega)] at e2
  have h4 : Has _ _ (.cells ((of7 l).cells A62 c63) 46 (0, 0)) := hg67
  have b87 := bt b39 hb50
  have l88 := Nat.le_trans b39.size (Nat.le_refl _)
  have b89 := b87.trans (hb56.mono l88)
  have b90 := b89.trans (hb69.mono l37)
  exact bodyPost_ret (res_cell2 Try.results63 rfl (h4.load (P := Try.prog) 46 Try.underlying46 rfl (by kernel_rfl)) rfl) rfl ⟨⟨A62, c63, by rw [e1, e2]; rfl, by rw [e1]; exact of7_ok y.rng, by rw [e1]; exact (own85.more b39.size)⟩, b90⟩
 refine lv (.bool true) (by exact neq_int_ne (by exact rfl) (by exact rfl) (by exact rfl) (by first | assumption | omega)) ?_
 simp only [lay]
 refine wn ?_
 refine wp_cond_true (by exact rfl) ?_
 refine wp_sr ?_
 refine lv (.agg #[.int .u8 0, .int .u8 0, .int .u32 0, .slice none 0 0]) (by kernel_rfl) ?_
 simp only [lay]
 have b95 := bt hb13 hb19
 have has96 := hg3.to b95
 refine lz (ow_st 46 (.tmp 4) (.tmp 12) g1 #[.int .u8 0, .int .u8 0, .int .u32 0, .slice none 0 0] _ _ rfl (by exact rfl) (by exact rfl) has96 (by kernel_rfl) rfl (by kernel_rfl) ?_)
 intro W91 hg92 bs93 hb94
 have has97 := hg10.to hb19
 have z98 := hb94.size
 have has99 := has97.but6 bs93 (by omega)
 simp only [lay]
 refine lv (.int .i64 71) (by exact xa) ?_
 simp only [lay]
 refine wn ?_
 refine wp_ret ?_
 try simp only [Exit.then]
 have e1 := parse7_eq h8 hm (ps := ps)
 rw [if_pos (by omega)] at e1
 have e2 := perr7_eq h8 hm (ps := ps)
 rw [if_pos (by omega)] at e2
 have b100 := bt b15 hb19
 have l101 : w.heap.size ≤ g1 := Nat.le_of_eq ge4.symm
 have b102 := b100.trans (hb94.mono l101)
 exact bodyPost_ret (res_cell2 Try.results63 rfl (hg92.load (P := Try.prog) 46 Try.underlying46 rfl (by kernel_rfl)) rfl) rfl ⟨⟨none, 0, by rw [e1, e2]; rfl, by rw [e1]; exact zero7_ok, by rw [e1]; exact OwnB.nil _ _⟩, b102⟩
set_option maxRecDepth 100000 in
set_option maxHeartbeats 4000000 in
theorem rparse4m_any (A : Option Addr) (n c : Nat) (l : List Int) (w : World) (y : By w.heap.size w A n c l) :
  Calls Try.prog 21 #[.slice A n c] w fun e w' => Par7 w.heap.size w' l [] e ∧ Below w.heap.size w w' := by
 have yl := y.len
 go_enter Try.func21, Try.ntmps21
 refine wp_sr ?_
 refine lz (oa #[.int .u8 0, .int .u8 0, .int .u32 0, .slice none 0 0] ?_)
 intro g1 W2 hg3 ge4 sz5 hb6
 have z7 := hb6.size
 simp only [lay]
 refine lv (.int .i64 0) (by exact xa) ?_
 simp only [lay]
 refine wn ?_
 refine wp_sr ?_
 refine lv (.slice A n c) (by exact xm) ?_
 simp only [lay]
 refine lz (ow_same (.int .i64 (szerr n)) (by exact xk Try.func62) (rsize7_any _ n _ W2 (Nat.le_trans y.cap y.big)) ?_)
 simp only [lay]
 refine lv (.int .i64 (szerr n)) (by exact xa) ?_
 simp only [lay]
 refine wn ?_
 refine wp_seq ?_
 refine wp_sr ?_
 refine lv (.int .i64 (szerr n)) (by exact xm) ?_
 simp only [lay]
 by_cases q8 : szerr n = 0
 case pos =>
  have hz2 := szerr_zero q8
  refine lv (.bool false) (by exact neq_int_eq (by exact rfl) (by exact rfl) (by exact rfl) (by first | assumption | omega)) ?_
  simp only [lay]
  refine wn ?_
  refine wp_cond_false (by exact rfl) ?_
  refine wp_skip ?_
  change Code.wp _ _ _ _ _
  refine wp_sr ?_
  refine lv (.slice A n c) (by exact xm) ?_
  simp only [lay]
  have by9 := y.to hb6
  refine lz (ow_call (fun v w' => (∃ A' c', v = .tuple #[.agg ((parse7 l []).cells A' c'), .int .i64 (perr7 l [])] ∧ (parse7 l []).ok ∧ OwnB w' W2.heap.size (.slice A' (parse7 l []).bl.length c') (parse7 l []).bl) ∧ Below W2.heap.size W2 w') (by exact xk Try.func63) ((rparse7_any _ _ _ l _ _ _ [] W2 by9 (By.nil _ _ none (by decide)) (by omega) (by omega) (by decide)).mono (by rintro e w' ⟨⟨A', c', rfl, hk, ho⟩, hb⟩; exact ⟨_, rfl, ⟨A', c', rfl, hk, ho⟩, hb⟩)) ?_)
  rintro _ W10 ⟨⟨A12, c13, rfl, hk14, hO15⟩, hb11⟩
  have z16 := hb11.size
  simp only [lay]
  refine lv (.agg ((parse7 l []).cells A12 c13)) (by exact xe) ?_
  simp only [lay]
  refine lv (.int .i64 (perr7 l [])) (by exact xe) ?_
  simp only [lay]
  have has21 := hg3.to hb11
  refine lz (ow_st 46 (.tmp 2) (.tmp 13) g1 ((parse7 l []).cells A12 c13) _ _ rfl (by exact rfl) (by exact rfl) has21 (by kernel_rfl) rfl (by kernel_rfl) ?_)
  intro W17 hg18 bs19 hb20
  have z22 := hb20.size
  have own23 := hO15.but6 bs19 (by omega)
  simp only [lay]
  refine lv (.int .i64 (perr7 l [])) (by exact xa) ?_
  simp only [lay]
  refine wn ?_
  refine wp_ret ?_
  try simp only [Exit.then]
  have b24 := bt hb6 hb11
  have l25 : w.heap.size ≤ g1 := Nat.le_of_eq ge4.symm
  have b26 := b24.trans (hb20.mono l25)
  exact bodyPost_ret (res_cell2 Try.results21 rfl (hg18.load (P := Try.prog) 46 Try.underlying46 rfl (by kernel_rfl)) rfl) rfl ⟨⟨_, _, rfl, hk14, (own23.more hb6.size)⟩, b26⟩
 have hz := q8
 refine lv (.bool true) (by exact neq_int_ne (by exact rfl) (by exact rfl) (by exact rfl) (by first | assumption | omega)) ?_
 simp only [lay]
 refine wn ?_
 refine wp_cond_true (by exact rfl) ?_
 refine wp_sr ?_
 refine lv (.agg #[.int .u8 0, .int .u8 0, .int .u32 0, .slice none 0 0]) (by kernel_rfl) ?_
 simp only [lay]
 refine lv (.int .i64 (szerr n)) (by exact xm) ?_
 simp only [lay]
 refine lz (ow_st 46 (.tmp 2) (.tmp 9) g1 #[.int .u8 0, .int .u8 0, .int .u32 0, .slice none 0 0] _ _ rfl (by exact rfl) (by exact rfl) hg3 (by kernel_rfl) rfl (by kernel_rfl) ?_)
 intro W27 hg28 bs29 hb30
 have z31 := hb30.size
 simp only [lay]
 refine lv (.int .i64 (szerr n)) (by exact xa) ?_
 simp only [lay]
 refine wn ?_
 refine wp_ret ?_
 try simp only [Exit.then]
 obtain ⟨e1, e2⟩ := szerr_bad (l := l) yl hz
 have l32 : w.heap.size ≤ g1 := Nat.le_of_eq ge4.symm
 have b33 := hb6.trans (hb30.mono l32)
 exact bodyPost_ret (res_cell2 Try.results21 rfl (hg28.load (P := Try.prog) 46 Try.underlying46 rfl (by kernel_rfl)) rfl) rfl ⟨⟨none, 0, by rw [e1, e2]; rfl, by rw [e1]; exact zero7_ok, by rw [e1]; exact OwnB.nil _ _⟩, b33⟩
end Go.Proofs.Ytijnifbpbgckgaa
namespace Go.Proofs.Ytijnifbpbgckgaa
open Go.RowKit

section
variable {P : Program}
theorem arrN_equal (t e : TypeId) (n : Nat) (ht : P.underlying t = some (.array n e)) (he : P.underlying e = some (.int .u8)) (hs : (P.info? e).map (·.size) = some 1) (a b : List Int) (ha : a.length = n) (hb : b.length = n) (w : World) :
    (Op.equalIn 10000 t (.agg (u8s a).toArray) (.agg (u8s b).toArray)).run P w = .ok (decide (a = b)) w := by
  have hsz : (sizeOf e).run P w = .ok 1 w := by
    cases hq : P.info? e with
    | none => simp [hq] at hs
    | some i => simp [hq] at hs; simp [sizeOf, typeInfo, hq, hs]
  have hi : ∀ a b : Int, (Op.equalIn 9999 e (.int .u8 a) (.int .u8 b)).run P w = .ok (a == b) w := fun a b => run_equalIn_int w 9998 e .u8 .u8 a b he
  rw [show (10000 : Nat) = 9999 + 1 from rfl]
  unfold Op.equalIn
  have hagg : (isAgg e).run P w = .ok false w := by
    unfold isAgg
    rw [Sem.run_bind, run_underlying he w]
    rfl
  have hp : ∀ (cs : List Int) (i : Nat), i < cs.length → (part e (u8s cs).toArray i).run P w = .ok (.int .u8 (cs.getD i 0)) w := fun cs i hx => by
    have : (u8s cs)[i]? = some (.int .u8 (cs.getD i 0)) := by simp [u8s, hx, List.getD]
    simp [part, hagg, this]
  have key : ∀ (m i : Nat), i + m = n → (forIn (List.range' i m) ((none : Option Bool), ()) fun i (_ : Option Bool × Unit) => do
        let x ← part e (u8s a).toArray i
        let y ← part e (u8s b).toArray i
        let z ← Op.equalIn 9999 e x y
        if z = false then pure (ForInStep.done (some false, ())) else pure (ForInStep.yield (none, ()))).run P w = .ok (if a.drop i = b.drop i then (none, ()) else (some false, ())) w := by
    intro m
    induction m with
    | zero =>
      intro i hi
      rw [List.drop_of_length_le (by omega), List.drop_of_length_le (by omega)]
      simp
    | succ m ih =>
      intro i hin
      have ea : a.drop i = a.getD i 0 :: a.drop (i + 1) := by
        rw [List.drop_eq_getElem_cons (by omega)]
        simp [List.getD, List.getElem?_eq_getElem (show i < a.length by omega)]
      have eb : b.drop i = b.getD i 0 :: b.drop (i + 1) := by
        rw [List.drop_eq_getElem_cons (by omega)]
        simp [List.getD, List.getElem?_eq_getElem (show i < b.length by omega)]
      rw [List.range'_succ, List.forIn_cons, ea, eb]
      simp only [Sem.run_bind, hp a i (by omega), hp b i (by omega), Result.andThen_ok, hi]
      by_cases hq : a.getD i 0 = b.getD i 0
      · have h2 : (a.getD i 0 == b.getD i 0) = true := by simpa using hq
        rw [h2]
        simp only [Bool.true_eq_false, if_false, Sem.run_pure, Result.andThen_ok]
        rw [ih (i + 1) (by omega), hq]
        simp
      · have h2 : (a.getD i 0 == b.getD i 0) = false := by simpa using hq
        rw [h2, if_neg (show ¬ (a.getD i 0 :: a.drop (i + 1) = b.getD i 0 :: b.drop (i + 1)) from fun h => hq (List.cons.inj h).1)]
        simp only [if_true, Sem.run_pure, Result.andThen_ok]
  have k0 := key n 0 (by omega)
  rw [List.drop_zero, List.drop_zero] at k0
  simp [run_underlying ht, hsz, Std.Legacy.Range.forIn_eq_forIn_range']
  rw [k0]
  by_cases hab : a = b <;> simp [hab]
theorem ex_eq_arrN {ρ : Operand → Value} {o : Oper} {t z e : TypeId} {x y : Operand} {n : Nat} {a b : List Int} {w : World} {q : Bool} (ho : o.op = .binOp .eql t x y z) (ht : P.underlying t = some (.array n e)) (he : P.underlying e = some (.int .u8)) (hs : (P.info? e).map (·.size) = some 1) (hg : P.eqGuardType P.depth t = false)
    (hx : ρ x = .agg (u8s a).toArray) (hy : ρ y = .agg (u8s b).toArray) (ha : a.length = n) (hb : b.length = n) (h : decide (a = b) = q) : (execOp ρ o).run P w = .ok (.value (.bool q)) w := by
  have h1 := arrN_equal t e n ht he hs a b ha hb w
  have h2 := run_eql_struct (P := P) w t (u8s a).toArray (u8s b).toArray
  rw [h1] at h2
  subst h
  unfold execOp
  have h3 := run_eqGuard_agg (P := P) w .eql t x y (u8s a).toArray (u8s b).toArray hg
  simp only [ho, hx, hy, Sem.run_bind, h3, Result.andThen_ok, h2, Sem.run_pure]
theorem ex_ne_arrN {ρ : Operand → Value} {o : Oper} {t z e : TypeId} {x y : Operand} {n : Nat} {a b : List Int} {w : World} {q : Bool} (ho : o.op = .binOp .neq t x y z) (ht : P.underlying t = some (.array n e)) (he : P.underlying e = some (.int .u8)) (hs : (P.info? e).map (·.size) = some 1) (hg : P.eqGuardType P.depth t = false)
    (hx : ρ x = .agg (u8s a).toArray) (hy : ρ y = .agg (u8s b).toArray) (ha : a.length = n) (hb : b.length = n) (h : (!decide (a = b)) = q) : (execOp ρ o).run P w = .ok (.value (.bool q)) w := by
  have h1 := arrN_equal t e n ht he hs a b ha hb w
  subst h
  unfold execOp
  have h3 := run_eqGuard_agg (P := P) w .neq t x y (u8s a).toArray (u8s b).toArray hg
  have h2 : (binOp .neq t (.agg (u8s a).toArray) (.agg (u8s b).toArray)).run P w = .ok (.bool (!decide (a = b))) w := by
    have h4 : (Op.equal t (.agg (u8s a).toArray) (.agg (u8s b).toArray)).run P w = .ok (decide (a = b)) w := h1
    simp [binOp, h4]
  simp only [ho, hx, hy, Sem.run_bind, h3, Result.andThen_ok, h2, Sem.run_pure]
end
end Go.Proofs.Ytijnifbpbgckgaa
