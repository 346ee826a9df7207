/-
  Lemmas and walks for the row of TofourTells (part 31 of 37).
-/
import Derived.Test.YtjnphelfloiadaaFtAI
import Derived.Test.YtjnphelfloiadaaFtAW
import Derived.Test.YtjnphelfloiadaaFtBA
import Derived.Test.YtjnphelfloiadaaFtBB
set_option linter.unusedVariables false
set_option linter.unusedSimpArgs false
namespace Go.Proofs.Ytjnphelfloiadaa
open Go.RowKit Go.Shelf
attribute [local irreducible] wpList Code.wp Oper.wp wpOp wpAnyH

set_option maxRecDepth 100000 in
theorem rsize7_any (A : Option Addr) (n c : Nat) (w : World) (hn : n ≤ 9223372036854775807) :
  Calls Try.prog 91 #[.slice A n c] w fun e w' => e = .returned (.int .i64 (szerr n)) ∧ w = w' := by
 go_enter Try.func91, Try.ntmps91
 refine wp_sr ?_
 refine lv (.int .i64 0) (by exact xa) ?_
 simp only [lay]
 refine wn ?_
 refine wp_seq ?_
 refine wp_sr ?_
 refine lv (.slice A n c) (by exact xm) ?_
 simp only [lay]
 refine lv (.int .i64 (n : Int)) (by exact xz Try.underlying26) ?_
 simp only [lay]
 by_cases q1 : (n : Int) < 8
 case pos =>
  refine lv (.bool true) (by exact ex_lss (by exact rfl) (by exact rfl) (by exact rfl) (decide_eq_true (by first | assumption | omega | decide))) ?_
  simp only [lay]
  refine wn ?_
  refine cT9 ?_
  refine wp_sr ?_
  refine lv (.int .i64 70) (by exact xa) ?_
  simp only [lay]
  refine wn ?_
  refine wp_ret ?_
  try simp only [Exit.then]
  have e : szerr n = 70 := by unfold szerr; repeat (first | rw [if_pos (by first | assumption | omega)] | rw [if_neg (by first | assumption | omega)])
  exact bodyPost_ret (res_one Try.results91 rfl) rfl ⟨by rw [e]; rfl, rfl⟩
 refine lv (.bool false) (by exact ex_lss (by exact rfl) (by exact rfl) (by exact rfl) (decide_eq_false (by first | assumption | omega | decide))) ?_
 simp only [lay]
 refine wn ?_
 refine cF9 ?_
 refine wp_skip ?_
 change Code.wp _ _ _ _ _
 refine wp_seq ?_
 refine wp_sr ?_
 refine lv (.slice A n c) (by exact xm) ?_
 simp only [lay]
 refine lv (.int .i64 (n : Int)) (by exact xz Try.underlying26) ?_
 simp only [lay]
 by_cases q2 : (n : Int) > 65535
 case pos =>
  refine lv (.bool true) (by exact ex_gtr (by exact rfl) (by exact rfl) (by exact rfl) (decide_eq_true (by first | assumption | omega | decide))) ?_
  simp only [lay]
  refine wn ?_
  refine cT9 ?_
  refine wp_sr ?_
  refine lv (.int .i64 2) (by exact xa) ?_
  simp only [lay]
  refine wn ?_
  refine wp_ret ?_
  try simp only [Exit.then]
  have e : szerr n = 2 := by unfold szerr; repeat (first | rw [if_pos (by first | assumption | omega)] | rw [if_neg (by first | assumption | omega)])
  exact bodyPost_ret (res_one Try.results91 rfl) rfl ⟨by rw [e]; rfl, rfl⟩
 refine lv (.bool false) (by exact ex_gtr (by exact rfl) (by exact rfl) (by exact rfl) (decide_eq_false (by first | assumption | omega | decide))) ?_
 simp only [lay]
 refine wn ?_
 refine cF9 ?_
 refine wp_skip ?_
 change Code.wp _ _ _ _ _
 refine wp_sr ?_
 refine lv (.int .i64 0) (by exact xa) ?_
 simp only [lay]
 refine wn ?_
 refine wp_ret ?_
 try simp only [Exit.then]
 have e : szerr n = 0 := by unfold szerr; repeat (first | rw [if_pos (by first | assumption | omega)] | rw [if_neg (by first | assumption | omega)])
 exact bodyPost_ret (res_one Try.results91 rfl) rfl ⟨by rw [e]; rfl, rfl⟩
theorem szerr_zero {n : Nat} (h : szerr n = 0) : 8 ≤ n ∧ n ≤ 65535 := by
 unfold szerr at h
 split at h
 ·cases h
 ·split at h
  ·cases h
  ·omega
def Par7 (base : Nat) (w' : World) (l ps : List Int) (e : Ending) : Prop := ∃ A c, e = .returned (.tuple #[.agg ((parse7 l ps).cells A c), .int .i64 (perr7 l ps)]) ∧ (parse7 l ps).ok ∧ OwnB w' base (.slice A (parse7 l ps).bl.length c) (parse7 l ps).bl

set_option maxRecDepth 100000 in
set_option maxHeartbeats 4000000 in
theorem rparse7_any (A : Option Addr) (n c : Nat) (l : List Int) (Ap : Option Addr) (np cp : Nat) (ps : List Int) (w : World) (y : By w.heap.size w A n c l) (yp : By w.heap.size w Ap np cp ps) (h8 : 8 ≤ l.length) (hm : l.length ≤ 65535) (hp : np ≤ 65536) :
  Calls Try.prog 92 #[.slice A n c, .slice Ap np cp] w fun e w' => Par7 w.heap.size w' l ps e ∧ Below w.heap.size w w' := by
 have yl := y.len
 have ypl := yp.len
 have t4 := getD_byte y.rng 4
 have t5 := getD_byte y.rng 5
 have t6 := getD_byte y.rng 6
 have t7 := getD_byte y.rng 7
 go_enter Try.func92, Try.ntmps92
 refine wp_sr ?_
 refine lz (oa #[.int .u8 0, .int .u8 0, .int .u32 0, .slice none 0 0] ?_)
 intro g1 W2 hg3 ge4 sz5 hb6
 have z7 := hb6.size
 simp only [lay]
 refine lv (.int .i64 0) (by exact xa) ?_
 simp only [lay]
 refine wn ?_
 refine wp_seq ?_
 refine wp_sr ?_
 refine lv (.slice Ap np cp) (by exact xm) ?_
 simp only [lay]
 refine lv (.slice A n c) (by exact xm) ?_
 simp only [lay]
 refine lz (ow_build [.slice Ap np cp, .slice A n c] rfl Try.underlying100 (by kernel_rfl) (by kernel_rfl) rfl (by decide) (by decide) (by first | rfl | (simp only [List.map_toArray, List.map_cons, List.map_nil] <;> rfl)) (by simp [Value.cells]) ?_)
 intro g8 W9 hg10 ge11 sz12 hb13
 have z14 := hb13.size
 simp only [lay]
 have b15 := bt hb6 hb13
 have by16 := yp.to b15
 have by17 := y.to b15
 refine lz (ow_call (fun v w' => v = .int .u16 (sumw (ps ++ l)) ∧ Below W9.heap.size W9 w') (by exact xk Try.func59) (rfold2 hg10 by16 by17 (by omega)) ?_)
 rintro _ W18 ⟨rfl, hb19⟩
 have z20 := hb19.size
 simp only [lay]
 by_cases q21 : sumw (ps ++ l) = 65535
 case pos =>
  refine lv (.bool false) (by exact neq_int_eq (by exact rfl) (by exact rfl) (by exact rfl) (by first | assumption | omega)) ?_
  simp only [lay]
  refine wn ?_
  refine cF9 ?_
  refine wp_skip ?_
  change Code.wp _ _ _ _ _
  refine wp_seq ?_
  refine rg_drawn W18.heap.size (by kernel_rfl) (Nat.le_refl _) ?_
  intro W22 hb23 hs24 hS25
  have z26 := hb23.size
  refine te 0 (.slice A n c) hS25 rfl (by intro _ _; exact xm) ?_
  simp only [lay]
  obtain ⟨b27, o28, hA29⟩ := y.form (k := 4) (by omega)
  refine te 1 (.pointer (some ⟨b27, o28 + 4, none⟩)) hS25 rfl (by intro _ _; exact xi 4 Try.underlying26 hA29) ?_
  simp only [lay]
  have b30 := bt b15 hb19
  have by31 := y.to b30
  refine te 2 (.int .u8 (l.getD 4 0)) hS25 rfl (by intro _ h; exact xc Try.underlying5 ((by31.to h).atE (k := 4) hA29 (by omega))) ?_
  simp only [lay]
  refine te 3 (.int .u32 (l.getD 4 0)) hS25 rfl (by intro _ _; exact xv (conv_u32 5 22 .u8 (l.getD 4 0) (by kernel_rfl) Try.underlying22 (in_rng (getD_byte y.rng 4)).1 (in_rng (getD_byte y.rng 4)).2.2 _)) ?_
  simp only [lay]
  refine te 4 (.int .u32 ((l.getD 4 0) * 16777216)) hS25 rfl (by intro _ _; exact xb (w_shl32 _ 24 _ ((l.getD 4 0) * 16777216) rfl (by decide) (by have := (getD_byte y.rng 4); omega) _)) ?_
  simp only [lay]
  refine te 5 (.slice A n c) hS25 rfl (by intro _ _; exact xm) ?_
  simp only [lay]
  refine te 6 (.pointer (some ⟨b27, o28 + 5, none⟩)) hS25 rfl (by intro _ _; exact xi 5 Try.underlying26 hA29) ?_
  simp only [lay]
  refine te 7 (.int .u8 (l.getD 5 0)) hS25 rfl (by intro _ h; exact xc Try.underlying5 ((by31.to h).atE (k := 5) hA29 (by omega))) ?_
  simp only [lay]
  refine te 8 (.int .u32 (l.getD 5 0)) hS25 rfl (by intro _ _; exact xv (conv_u32 5 22 .u8 (l.getD 5 0) (by kernel_rfl) Try.underlying22 (in_rng (getD_byte y.rng 5)).1 (in_rng (getD_byte y.rng 5)).2.2 _)) ?_
  simp only [lay]
  refine te 9 (.int .u32 ((l.getD 5 0) * 65536)) hS25 rfl (by intro _ _; exact xb (w_shl32 _ 16 _ ((l.getD 5 0) * 65536) rfl (by decide) (by have := (getD_byte y.rng 5); omega) _)) ?_
  simp only [lay]
  refine te 10 (.int .u32 ((l.getD 4 0) * 16777216 + (l.getD 5 0) * 65536)) hS25 rfl (by intro _ _; exact xb (b_add32 _ ((l.getD 4 0) * 16777216 + (l.getD 5 0) * 65536) rfl (by omega) _)) ?_
  simp only [lay]
  refine te 11 (.slice A n c) hS25 rfl (by intro _ _; exact xm) ?_
  simp only [lay]
  refine te 12 (.pointer (some ⟨b27, o28 + 6, none⟩)) hS25 rfl (by intro _ _; exact xi 6 Try.underlying26 hA29) ?_
  simp only [lay]
  refine te 13 (.int .u8 (l.getD 6 0)) hS25 rfl (by intro _ h; exact xc Try.underlying5 ((by31.to h).atE (k := 6) hA29 (by omega))) ?_
  simp only [lay]
  refine te 14 (.int .u32 (l.getD 6 0)) hS25 rfl (by intro _ _; exact xv (conv_u32 5 22 .u8 (l.getD 6 0) (by kernel_rfl) Try.underlying22 (in_rng (getD_byte y.rng 6)).1 (in_rng (getD_byte y.rng 6)).2.2 _)) ?_
  simp only [lay]
  refine te 15 (.int .u32 ((l.getD 6 0) * 256)) hS25 rfl (by intro _ _; exact xb (w_shl32 _ 8 _ ((l.getD 6 0) * 256) rfl (by decide) (by have := (getD_byte y.rng 6); omega) _)) ?_
  simp only [lay]
  refine te 16 (.int .u32 ((l.getD 4 0) * 16777216 + (l.getD 5 0) * 65536 + (l.getD 6 0) * 256)) hS25 rfl (by intro _ _; exact xb (b_add32 _ ((l.getD 4 0) * 16777216 + (l.getD 5 0) * 65536 + (l.getD 6 0) * 256) rfl (by omega) _)) ?_
  simp only [lay]
  refine te 17 (.slice A n c) hS25 rfl (by intro _ _; exact xm) ?_
  simp only [lay]
  refine te 18 (.pointer (some ⟨b27, o28 + 7, none⟩)) hS25 rfl (by intro _ _; exact xi 7 Try.underlying26 hA29) ?_
  simp only [lay]
  refine te 19 (.int .u8 (l.getD 7 0)) hS25 rfl (by intro _ h; exact xc Try.underlying5 ((by31.to h).atE (k := 7) hA29 (by omega))) ?_
  simp only [lay]
  refine te 20 (.int .u32 (l.getD 7 0)) hS25 rfl (by intro _ _; exact xv (conv_u32 5 22 .u8 (l.getD 7 0) (by kernel_rfl) Try.underlying22 (in_rng (getD_byte y.rng 7)).1 (in_rng (getD_byte y.rng 7)).2.2 _)) ?_
  simp only [lay]
  refine te 21 (.int .u32 ((l.getD 4 0) * 16777216 + (l.getD 5 0) * 65536 + (l.getD 6 0) * 256 + l.getD 7 0)) hS25 rfl (by intro _ _; exact xb (b_add32 _ ((l.getD 4 0) * 16777216 + (l.getD 5 0) * 65536 + (l.getD 6 0) * 256 + l.getD 7 0) rfl (by omega) _)) ?_
  simp only [lay]
  refine te 22 (.int .u32 ((l.getD 4 0) * 16777216 + (l.getD 5 0) * 65536 + (l.getD 6 0) * 256 + l.getD 7 0)) hS25 rfl (by intro _ _; exact xa) ?_
  simp only [lay]
  refine wpAnyH_done (by kernel_rfl) ?_ _
  change Code.wp _ _ _ _ _
  refine wp_seq ?_
  refine rg_drawn g1 (by kernel_rfl) (by omega) ?_
  intro W32 hb33 hs34 hS35
  have z36 := hb33.size
  refine te 0 (.slice A n c) hS35 rfl (by intro _ _; exact xm) ?_
  simp only [lay]
  refine te 1 (.pointer (some ⟨b27, o28 + 0, none⟩)) hS35 rfl (by intro _ _; exact xi 0 Try.underlying26 hA29) ?_
  simp only [lay]
  have l37 : w.heap.size ≤ g1 := Nat.le_of_eq ge4.symm
  have b38 := bt b30 hb23
  refine te 2 (.int .u8 (l.getD 0 0)) hS35 rfl (by intro _ h; exact xc Try.underlying5 ((y.to (b38.trans (Below.mono h l37))).atE (k := 0) hA29 (by omega))) ?_
  simp only [lay]
  refine te 3 (.slice A n c) hS35 rfl (by intro _ _; exact xm) ?_
  simp only [lay]
  refine te 4 (.pointer (some ⟨b27, o28 + 1, none⟩)) hS35 rfl (by intro _ _; exact xi 1 Try.underlying26 hA29) ?_
  simp only [lay]
  refine te 5 (.int .u8 (l.getD 1 0)) hS35 rfl (by intro _ h; exact xc Try.underlying5 ((y.to (b38.trans (Below.mono h l37))).atE (k := 1) hA29 (by omega))) ?_
  simp only [lay]
  refine te 6 (.int .u32 ((l.getD 4 0) * 16777216 + (l.getD 5 0) * 65536 + (l.getD 6 0) * 256 + l.getD 7 0)) hS35 rfl (by intro _ _; exact xm) ?_
  simp only [lay]
  refine te 8 (.slice A n c) hS35 rfl (by intro _ _; exact xm) ?_
  simp only [lay]
  have b39 := bt b38 hb33
  have by40 := y.to b39
  obtain ⟨A41, c42, hs43, y44⟩ := by40.from_ (P := Try.prog) 26 Try.underlying26 (by kernel_rfl) (k := 8) (by omega)
  refine te 9 (.slice A41 (n - 8) c42) hS35 rfl (by intro _ _; exact ex_slice (by exact rfl) (by exact rfl) (hs43 _)) ?_
  simp only [lay]
  refine t1 7 rfl (ow_build0 rfl Try.underlying26 (by kernel_rfl) ?_)
  intro g45 W46 hg47 ge48 sz49 hb50
  have z51 := hb50.size
  have hO52 : OwnB W46 W32.heap.size (.slice (some ⟨g45, 0, none⟩) 0 0) [] := OwnB.blk (l := []) hg47 (Nat.le_of_eq ge48.symm) rfl InB.nil (by simp)
  refine ⟨(Below.trans hS35 (hb50.mono (Nat.le_trans (by omega) hS35.size))), ?_⟩
  have hS53 := (Below.trans hS35 (hb50.mono (Nat.le_trans (by omega) hS35.size)))
  simp only [lay]
  have by59 := y44.to hb50
  refine t1 10 rfl (ow_app (.tmp 42) (.tmp 44) 26 rfl Try.underlying26 info8 _ _ [] rfl hO52 _ _ _ _ (l.drop 8) rfl by59 (by simp only [List.length_nil]; omega) hb50.size ?_)
  intro v58 W54 hO55 hb56 hgr57
  have z60 := hb56.size
  have hO61 : OwnB W54 W32.heap.size v58 (l.drop 8) := hO55
  obtain ⟨A62, c63, rfl, y64⟩ := hO61.by_
  refine ⟨(Below.trans hS53 (hb56.mono (by omega))), ?_⟩
  have hS65 := (Below.trans hS53 (hb56.mono (by omega)))
  simp only [lay]
  refine te 11 (.agg #[.int .u8 (l.getD 0 0), .int .u8 (l.getD 1 0), .int .u32 ((l.getD 4 0) * 16777216 + (l.getD 5 0) * 65536 + (l.getD 6 0) * 256 + l.getD 7 0), .slice A62 ((l.drop 8).length) c63]) hS65 rfl (by intro _ _; kernel_rfl) ?_
  simp only [lay]
  have b70 := bt hb13 hb19
  have b71 := bt b70 hb23
  have b72 := bt b71 hb33
  have b73 := bt b72 hb50
  have l74 := Nat.le_trans b72.size (Nat.le_refl _)
  have b75 := b73.trans (hb56.mono l74)
  have has76 := hg3.to b75
  refine t1 12 rfl (ow_st 43 (.tmp 4) (.tmp 46) g1 #[.int .u8 (l.getD 0 0), .int .u8 (l.getD 1 0), .int .u32 ((l.getD 4 0) * 16777216 + (l.getD 5 0) * 65536 + (l.getD 6 0) * 256 + l.getD 7 0), .slice A62 ((l.drop 8).length) c63] _ _ rfl (by exact rfl) (by exact rfl) has76 (by kernel_rfl) rfl (by kernel_rfl) ?_)
  intro W66 hg67 bs68 hb69
  have b77 := bt hb19 hb23
  have b78 := bt b77 hb33
  have b79 := bt b78 hb50
  have l80 := Nat.le_trans b78.size (Nat.le_refl _)
  have b81 := b79.trans (hb56.mono l80)
  have has82 := hg10.to b81
  have z83 := hb69.size
  have has84 := has82.but6 bs68 (by omega)
  have own85 := hO61.but6 bs68 (by omega)
  refine ⟨(Below.trans hS65 hb69), ?_⟩
  have hS86 := (Below.trans hS65 hb69)
  simp only [lay]
  refine te 13 (.int .i64 0) hS86 rfl (by intro _ _; exact xa) ?_
  simp only [lay]
  refine wpAnyH_done (by kernel_rfl) ?_ _
  change Code.wp _ _ _ _ _
  refine wp_ret ?_
  try simp only [Exit.then]
  have e1 := parse7_eq h8 hm (ps := ps)
  rw [if_neg (by omega)] at e1
  have e2 := perr7_eq h8 hm (ps := ps)
  rw [if_neg (by omega)] at e2
  have h4 : Has _ _ (.cells ((of7 l).cells A62 c63) 43 (0, 0)) := hg67
  have b87 := bt b39 hb50
  have l88 := Nat.le_trans b39.size (Nat.le_refl _)
  have b89 := b87.trans (hb56.mono l88)
  have b90 := b89.trans (hb69.mono l37)
  exact bodyPost_ret (res_cell2 Try.results92 rfl (h4.load (P := Try.prog) 43 Try.underlying43 rfl (by kernel_rfl)) rfl) rfl ⟨⟨A62, c63, by rw [e1, e2]; rfl, by rw [e1]; exact of7_ok y.rng, by rw [e1]; exact (own85.more b39.size)⟩, b90⟩
 refine lv (.bool true) (by exact neq_int_ne (by exact rfl) (by exact rfl) (by exact rfl) (by first | assumption | omega)) ?_
 simp only [lay]
 refine wn ?_
 refine cT9 ?_
 refine wp_sr ?_
 refine lv (.agg #[.int .u8 0, .int .u8 0, .int .u32 0, .slice none 0 0]) (by kernel_rfl) ?_
 simp only [lay]
 have b95 := bt hb13 hb19
 have has96 := hg3.to b95
 refine lz (ow_st 43 (.tmp 4) (.tmp 12) g1 #[.int .u8 0, .int .u8 0, .int .u32 0, .slice none 0 0] _ _ rfl (by exact rfl) (by exact rfl) has96 (by kernel_rfl) rfl (by kernel_rfl) ?_)
 intro W91 hg92 bs93 hb94
 have has97 := hg10.to hb19
 have z98 := hb94.size
 have has99 := has97.but6 bs93 (by omega)
 simp only [lay]
 refine lv (.int .i64 71) (by exact xa) ?_
 simp only [lay]
 refine wn ?_
 refine wp_ret ?_
 try simp only [Exit.then]
 have e1 := parse7_eq h8 hm (ps := ps)
 rw [if_pos (by omega)] at e1
 have e2 := perr7_eq h8 hm (ps := ps)
 rw [if_pos (by omega)] at e2
 have b100 := bt b15 hb19
 have l101 : w.heap.size ≤ g1 := Nat.le_of_eq ge4.symm
 have b102 := b100.trans (hb94.mono l101)
 exact bodyPost_ret (res_cell2 Try.results92 rfl (hg92.load (P := Try.prog) 43 Try.underlying43 rfl (by kernel_rfl)) rfl) rfl ⟨⟨none, 0, by rw [e1, e2]; rfl, by rw [e1]; exact zero7_ok, by rw [e1]; exact OwnB.nil _ _⟩, b102⟩
end Go.Proofs.Ytjnphelfloiadaa
namespace Go.Proofs.Ytjnphelfloiadaa
open Go.RowKit Go.Shelf
attribute [local irreducible] wpList Code.wp Oper.wp wpOp wpAnyH

theorem szerr_ps {n : Nat} {l ps : List Int} (hl : l.length = n) (h : ¬ szerr n = 0) : parse7 l ps = zero7 ∧ perr7 l ps = szerr n := by
 unfold parse7 perr7
 unfold szerr at h ⊢
 rw [hl]
 by_cases h1 : n < 8
 ·rw [if_pos (.inl h1), if_pos h1, if_pos h1]
  exact ⟨rfl, rfl⟩
 ·rw [if_neg h1] at h
  by_cases h2 : 65535 < n
  ·rw [if_pos (.inr (.inl h2)), if_neg h1, if_neg h1, if_pos h2, if_pos h2]
   exact ⟨rfl, rfl⟩
  ·rw [if_neg h2] at h
   exact absurd rfl h

set_option maxRecDepth 100000 in
set_option maxHeartbeats 4000000 in
theorem rparse6m_any (s t : List Int) (hE : E6ok s t) (A : Option Addr) (n c : Nat) (l : List Int) (w : World) (y : By w.heap.size w A n c l) :
  Calls Try.prog 63 #[.agg ((u8s (l16 s)).toArray), .agg ((u8s (l16 t)).toArray), .slice A n c] w fun e w' => Par7 w.heap.size w' l (pse6 s t (l.length : Int) 58) e ∧ Below w.heap.size w w' := by
 have yl := y.len
 have sL := hE.sL
 have tL := hE.tL
 go_enter Try.func63, Try.ntmps63
 refine wp_sr ?_
 refine lz (ow_box 24 (.tmp 0) _ rfl rfl ?_)
 intro g1 W2 hg3 ge4 sz5 hb6
 have z7 := hb6.size
 simp only [lay]
 refine lz (ow_box 24 (.tmp 1) _ rfl rfl ?_)
 intro g8 W9 hg10 ge11 sz12 hb13
 have z14 := hb13.size
 simp only [lay]
 refine lz (oa #[.int .u8 0, .int .u8 0, .int .u32 0, .slice none 0 0] ?_)
 intro g15 W16 hg17 ge18 sz19 hb20
 have z21 := hb20.size
 simp only [lay]
 refine lv (.int .i64 0) (by exact xa) ?_
 simp only [lay]
 refine wn ?_
 refine wp_sr ?_
 refine lv (.slice A n c) (by exact xm) ?_
 simp only [lay]
 refine lz (ow_same (.int .i64 (szerr n)) (by exact xk Try.func91) (rsize7_any _ n _ W16 (Nat.le_trans y.cap y.big)) ?_)
 simp only [lay]
 refine lv (.int .i64 (szerr n)) (by exact xa) ?_
 simp only [lay]
 refine wn ?_
 refine wp_seq ?_
 refine wp_sr ?_
 refine lv (.int .i64 (szerr n)) (by exact xm) ?_
 simp only [lay]
 by_cases q22 : szerr n = 0
 case pos =>
  have hz2 := szerr_zero q22
  refine lv (.bool false) (by exact neq_int_eq (by exact rfl) (by exact rfl) (by exact rfl) (by first | assumption | omega)) ?_
  simp only [lay]
  refine wn ?_
  refine cF9 ?_
  refine wp_skip ?_
  change Code.wp _ _ _ _ _
  refine wp_sr ?_
  have b23 := bt hb13 hb20
  have has24 := hg3.to b23
  refine lv (.agg ((u8s (l16 s)).toArray)) (by exact xo (has24.load (P := Try.prog) 24 Try.underlying24 rfl (by kernel_rfl))) ?_
  simp only [lay]
  have has25 := hg10.to hb20
  refine lv (.agg ((u8s (l16 t)).toArray)) (by exact xo (has25.load (P := Try.prog) 24 Try.underlying24 rfl (by kernel_rfl))) ?_
  simp only [lay]
  refine lv (.slice A n c) (by exact xm) ?_
  simp only [lay]
  refine lv (.int .i64 (n : Int)) (by exact xz Try.underlying26) ?_
  simp only [lay]
  refine lz (ow_call (fun v w' => (∃ u, v = .tuple #[u, .int .i64 0] ∧ OwnB w' W16.heap.size u (pse6 s t (l.length : Int) 58)) ∧ Below W16.heap.size W16 w') (by exact xk Try.func61) (by have := rpseudo6_l hE.sL hE.tL hE.s hE.t (p := 58) (n := (n : Int)) (by decide) (by omega) W16; rw [show (n : Int) = (l.length : Int) from by rw [yl]] at this ⊢; exact this) ?_)
  rintro _ W26 ⟨⟨u28, rfl, hO29⟩, hb27⟩
  have z30 := hb27.size
  obtain ⟨A31, c32, rfl, y33⟩ := hO29.by_
  simp only [lay]
  refine lv (.tuple #[.slice A31 ((pse6 s t (l.length : Int) 58).length) c32, .int .i64 0]) (by exact xm) ?_
  simp only [lay]
  refine lv (.slice A31 ((pse6 s t (l.length : Int) 58).length) c32) (by exact xe) ?_
  simp only [lay]
  refine lv (.int .i64 0) (by exact xe) ?_
  simp only [lay]
  refine lv (.slice A31 ((pse6 s t (l.length : Int) 58).length) c32) (by exact xa) ?_
  simp only [lay]
  refine lv (.int .i64 0) (by exact xa) ?_
  simp only [lay]
  refine wn ?_
  refine wp_sr ?_
  refine lv (.slice A n c) (by exact xm) ?_
  simp only [lay]
  refine lv (.slice A31 ((pse6 s t (l.length : Int) 58).length) c32) (by exact xm) ?_
  simp only [lay]
  have b34 := bt hb6 hb13
  have b35 := bt b34 hb20
  have b36 := bt b35 hb27
  have by37 := y.to b36
  refine lz (ow_call (fun v w' => (∃ A' c', v = .tuple #[.agg ((parse7 l (pse6 s t (l.length : Int) 58)).cells A' c'), .int .i64 (perr7 l (pse6 s t (l.length : Int) 58))] ∧ (parse7 l (pse6 s t (l.length : Int) 58)).ok ∧ OwnB w' W26.heap.size (.slice A' (parse7 l (pse6 s t (l.length : Int) 58)).bl.length c') (parse7 l (pse6 s t (l.length : Int) 58)).bl) ∧ Below W26.heap.size W26 w') (by exact xk Try.func92) ((rparse7_any _ _ _ l _ _ _ (pse6 s t (l.length : Int) 58) W26 by37 (own_byS hO29) (by omega) (by omega) (by simp only [pse6, List.length_append, List.length_cons, List.length_nil, hE.sL, hE.tL]; decide)).mono (by rintro e w' ⟨⟨A', c', rfl, hk, ho⟩, hb⟩; exact ⟨_, rfl, ⟨A', c', rfl, hk, ho⟩, hb⟩)) ?_)
  rintro _ W38 ⟨⟨A40, c41, rfl, hk42, hO43⟩, hb39⟩
  have z44 := hb39.size
  simp only [lay]
  refine lv (.agg ((parse7 l (pse6 s t (l.length : Int) 58)).cells A40 c41)) (by exact xe) ?_
  simp only [lay]
  refine lv (.int .i64 (perr7 l (pse6 s t (l.length : Int) 58))) (by exact xe) ?_
  simp only [lay]
  have b49 := bt hb27 hb39
  have has50 := hg17.to b49
  refine lz (ow_st 43 (.tmp 6) (.tmp 28) g15 ((parse7 l (pse6 s t (l.length : Int) 58)).cells A40 c41) _ _ rfl (by exact rfl) (by exact rfl) has50 (by kernel_rfl) rfl (by kernel_rfl) ?_)
  intro W45 hg46 bs47 hb48
  have own51 := hO29.to hb39
  have z52 := hb48.size
  have own53 := own51.but6 bs47 (by omega)
  have own54 := hO43.but6 bs47 (by omega)
  simp only [lay]
  refine lv (.int .i64 (perr7 l (pse6 s t (l.length : Int) 58))) (by exact xa) ?_
  simp only [lay]
  refine wn ?_
  refine wp_ret ?_
  try simp only [Exit.then]
  have b55 := bt b36 hb39
  have l56 := lq b34 ge18
  have b57 := b55.trans (hb48.mono l56)
  exact bodyPost_ret (res_cell2 Try.results63 rfl (hg46.load (P := Try.prog) 43 Try.underlying43 rfl (by kernel_rfl)) rfl) rfl ⟨⟨_, _, rfl, hk42, (own54.more b36.size)⟩, b57⟩
 have hz := q22
 refine lv (.bool true) (by exact neq_int_ne (by exact rfl) (by exact rfl) (by exact rfl) (by first | assumption | omega)) ?_
 simp only [lay]
 refine wn ?_
 refine cT9 ?_
 refine wp_sr ?_
 refine lv (.agg #[.int .u8 0, .int .u8 0, .int .u32 0, .slice none 0 0]) (by kernel_rfl) ?_
 simp only [lay]
 refine lv (.int .i64 (szerr n)) (by exact xm) ?_
 simp only [lay]
 refine lz (ow_st 43 (.tmp 6) (.tmp 15) g15 #[.int .u8 0, .int .u8 0, .int .u32 0, .slice none 0 0] _ _ rfl (by exact rfl) (by exact rfl) hg17 (by kernel_rfl) rfl (by kernel_rfl) ?_)
 intro W58 hg59 bs60 hb61
 have z62 := hb61.size
 simp only [lay]
 refine lv (.int .i64 (szerr n)) (by exact xa) ?_
 simp only [lay]
 refine wn ?_
 refine wp_ret ?_
 try simp only [Exit.then]
 obtain ⟨e1, e2⟩ := szerr_ps (l := l) (ps := pse6 s t (l.length : Int) 58) yl hz
 have b63 := bt hb6 hb13
 have b64 := bt b63 hb20
 have l65 := lq b63 ge18
 have b66 := b64.trans (hb61.mono l65)
 exact bodyPost_ret (res_cell2 Try.results63 rfl (hg59.load (P := Try.prog) 43 Try.underlying43 rfl (by kernel_rfl)) rfl) rfl ⟨⟨none, 0, by rw [e1, e2]; rfl, by rw [e1]; exact zero7_ok, by rw [e1]; exact OwnB.nil _ _⟩, b66⟩
end Go.Proofs.Ytjnphelfloiadaa
