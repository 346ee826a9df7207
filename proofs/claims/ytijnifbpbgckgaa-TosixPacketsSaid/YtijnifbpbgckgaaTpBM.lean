/-
  Lemmas and walks for the row of TosixPackets (part 39 of 45).
-/
import Derived.Test.YtijnifbpbgckgaaTpAF
import Derived.Test.YtijnifbpbgckgaaTpAZ
import Derived.Test.YtijnifbpbgckgaaTpBA
import Derived.Test.YtijnifbpbgckgaaTpBL
set_option linter.unusedVariables false
set_option linter.unusedSimpArgs false
namespace Go.Proofs.Ytijnifbpbgckgaa
open Go.RowKit Go.Shelf
attribute [local irreducible] wpList Code.wp Oper.wp wpOp wpAnyH

/-- a message without a body, and whether it has a meaning -/
def KindR (r : (Int × Int × Int) × Bool) (e : Ending) : Prop := ∃ a b c, e = .returned (.tuple #[.agg #[.int .u8 a, .int .u8 b, .int .u32 c, .slice none 0 0], .bool r.2]) ∧ (r.2 = true → r.1 = (a, b, c))
theorem KindR.mk {r : (Int × Int × Int) × Bool} {a b c : Int} {q : Bool} (h : r.2 = q) (h' : q = true → r.1 = (a, b, c)) : KindR r (.returned (.tuple #[.agg #[.int .u8 a, .int .u8 b, .int .u32 c, .slice none 0 0], .bool q])) := by
 subst h
 exact ⟨a, b, c, rfl, h'⟩

set_option maxRecDepth 100000 in
set_option maxHeartbeats 8000000 in
theorem rkind17_any (m : D7) (hm : m.ok) (A : Option Addr) (c : Nat) (w : World) :
  Calls Try.prog 52 #[.agg (m.cells A c)] w fun e w' => KindR (kind17 m) e ∧ Below w.heap.size w w' := by
 have r1 := hm.rest
 have r2 := hm.ty
 have r3 := hm.code
 go_enter Try.func52, Try.ntmps52
 refine wp_sr ?_
 refine lz (ow_box 46 (.tmp 0) _ rfl rfl ?_)
 intro g1 W2 hg3 ge4 sz5 hb6
 have z7 := hb6.size
 simp only [lay]
 refine lz (oa #[.int .u8 0, .int .u8 0, .int .u32 0, .slice none 0 0] ?_)
 intro g8 W9 hg10 ge11 sz12 hb13
 have z14 := hb13.size
 simp only [lay]
 refine lv (.bool false) (by exact xa) ?_
 simp only [lay]
 refine wn ?_
 refine wp_sr ?_
 refine lv (.agg #[.int .u8 0, .int .u8 0, .int .u32 0, .slice none 0 0]) (by kernel_rfl) ?_
 simp only [lay]
 refine lz (oa #[.int .u8 0, .int .u8 0, .int .u32 0, .slice none 0 0] ?_)
 intro g15 W16 hg17 ge18 sz19 hb20
 have z21 := hb20.size
 simp only [lay]
 refine lz (ow_st 46 (.tmp 4) (.tmp 7) g15 #[.int .u8 0, .int .u8 0, .int .u32 0, .slice none 0 0] _ _ rfl (by exact rfl) (by exact rfl) hg17 (by kernel_rfl) rfl (by kernel_rfl) ?_)
 intro W22 hg23 bs24 hb25
 have z26 := hb25.size
 simp only [lay]
 refine wn ?_
 refine wp_seq ?_
 refine wp_sr ?_
 refine lv (.pointer (some ⟨g1, 0, none⟩)) (by exact xf 0 0 Try.underlying46) ?_
 simp only [lay]
 have b27 := bt hb13 hb20
 have l28 := lq hb13 ge18
 have b29 := b27.trans (hb25.mono l28)
 have has30 := hg3.to b29
 refine lv (.int .u8 m.ty) (by exact xc Try.underlying5 (has30.cell 0 rfl)) ?_
 simp only [lay]
 refine wn ?_
 refine wp_block ?_
 refine wp_sr ?_
 by_cases q31 : m.ty = 8
 case pos =>
  refine lv (.bool true) (by exact yq) ?_
  simp only [lay]
  refine lv (.bool true) (by exact xa) ?_
  simp only [lay]
  refine wn ?_
  refine cT9 ?_
  refine wp_sr ?_
  refine lv (.pointer (some ⟨g1, 1, none⟩)) (by exact xf 1 0 Try.underlying46) ?_
  simp only [lay]
  refine lv (.int .u8 m.code) (by exact xc Try.underlying5 (has30.cell 1 rfl)) ?_
  simp only [lay]
  refine lv (.pointer (some ⟨g1, 2, none⟩)) (by exact xf 2 0 Try.underlying46) ?_
  simp only [lay]
  refine lv (.int .u32 m.rest) (by exact xc Try.underlying33 (has30.cell 2 rfl)) ?_
  simp only [lay]
  refine lv (.agg #[.int .u8 128, .int .u8 m.code, .int .u32 m.rest, .slice none 0 0]) (by kernel_rfl) ?_
  simp only [lay]
  have l36 : W9.heap.size ≤ g15 := Nat.le_of_eq ge18.symm
  have b37 := hb20.trans (hb25.mono l36)
  have has38 := hg10.to b37
  refine lz (ow_st 46 (.tmp 2) (.tmp 16) g8 #[.int .u8 128, .int .u8 m.code, .int .u32 m.rest, .slice none 0 0] _ _ rfl (by exact rfl) (by exact rfl) has38 (by kernel_rfl) rfl (by kernel_rfl) ?_)
  intro W32 hg33 bs34 hb35
  have z39 := hb35.size
  have has40 := hg23.but6 bs34 (by omega)
  simp only [lay]
  refine lv (.bool true) (by exact xa) ?_
  simp only [lay]
  refine wn ?_
  refine wp_ret ?_
  simp only [Exit.inBlock, Exit.then]
  have e : kind17 m = ((128, m.code, m.rest), true) := by
   unfold kind17
   repeat (first | rw [if_pos (by first | assumption | omega)] | rw [if_neg (by first | assumption | omega)])
  have e2 : (kind17 m).2 = true ∧ (kind17 m).1 = (128, m.code, m.rest) := by rw [e]; exact ⟨rfl, rfl⟩
  have b41 := bt hb6 hb13
  have b42 := bt b41 hb20
  have l43 := lq b41 ge18
  have b44 := b42.trans (hb25.mono l43)
  have l45 := lq hb6 ge11
  have b46 := b44.trans (hb35.mono l45)
  exact bodyPost_ret (res_cell2 Try.results52 rfl (hg33.load (P := Try.prog) 46 Try.underlying46 rfl (by kernel_rfl)) rfl) rfl ⟨KindR.mk e2.1 (fun _ => e2.2), b46⟩
 refine lv (.bool false) (by exact yqn) ?_
 simp only [lay]
 refine lv (.bool false) (by exact xa) ?_
 simp only [lay]
 refine wn ?_
 refine cF9 ?_
 refine wp_sr ?_
 by_cases q47 : m.ty = 0
 case pos =>
  refine lv (.bool true) (by exact yq) ?_
  simp only [lay]
  refine lv (.bool true) (by exact xa) ?_
  simp only [lay]
  refine wn ?_
  refine cT9 ?_
  refine wp_sr ?_
  refine lv (.pointer (some ⟨g1, 1, none⟩)) (by exact xf 1 0 Try.underlying46) ?_
  simp only [lay]
  refine lv (.int .u8 m.code) (by exact xc Try.underlying5 (has30.cell 1 rfl)) ?_
  simp only [lay]
  refine lv (.pointer (some ⟨g1, 2, none⟩)) (by exact xf 2 0 Try.underlying46) ?_
  simp only [lay]
  refine lv (.int .u32 m.rest) (by exact xc Try.underlying33 (has30.cell 2 rfl)) ?_
  simp only [lay]
  refine lv (.agg #[.int .u8 129, .int .u8 m.code, .int .u32 m.rest, .slice none 0 0]) (by kernel_rfl) ?_
  simp only [lay]
  have l52 : W9.heap.size ≤ g15 := Nat.le_of_eq ge18.symm
  have b53 := hb20.trans (hb25.mono l52)
  have has54 := hg10.to b53
  refine lz (ow_st 46 (.tmp 2) (.tmp 23) g8 #[.int .u8 129, .int .u8 m.code, .int .u32 m.rest, .slice none 0 0] _ _ rfl (by exact rfl) (by exact rfl) has54 (by kernel_rfl) rfl (by kernel_rfl) ?_)
  intro W48 hg49 bs50 hb51
  have z55 := hb51.size
  have has56 := hg23.but6 bs50 (by omega)
  simp only [lay]
  refine lv (.bool true) (by exact xa) ?_
  simp only [lay]
  refine wn ?_
  refine wp_ret ?_
  simp only [Exit.inBlock, Exit.then]
  have e : kind17 m = ((129, m.code, m.rest), true) := by
   unfold kind17
   repeat (first | rw [if_pos (by first | assumption | omega)] | rw [if_neg (by first | assumption | omega)])
  have e2 : (kind17 m).2 = true ∧ (kind17 m).1 = (129, m.code, m.rest) := by rw [e]; exact ⟨rfl, rfl⟩
  have b57 := bt hb6 hb13
  have b58 := bt b57 hb20
  have l59 := lq b57 ge18
  have b60 := b58.trans (hb25.mono l59)
  have l61 := lq hb6 ge11
  have b62 := b60.trans (hb51.mono l61)
  exact bodyPost_ret (res_cell2 Try.results52 rfl (hg49.load (P := Try.prog) 46 Try.underlying46 rfl (by kernel_rfl)) rfl) rfl ⟨KindR.mk e2.1 (fun _ => e2.2), b62⟩
 refine lv (.bool false) (by exact yqn) ?_
 simp only [lay]
 refine lv (.bool false) (by exact xa) ?_
 simp only [lay]
 refine wn ?_
 refine cF9 ?_
 refine wp_sr ?_
 by_cases q63 : m.ty = 3
 case pos =>
  refine lv (.bool true) (by exact yq) ?_
  simp only [lay]
  refine lv (.bool true) (by exact xa) ?_
  simp only [lay]
  refine wn ?_
  refine cT9 ?_
  refine wp_sr ?_
  refine lv (.pointer (some ⟨g15, 0, none⟩)) (by exact xf 0 0 Try.underlying46) ?_
  simp only [lay]
  refine lz (ow_st1 5 (.tmp 26) (.const (.int .u8 1)) g15 0 (.int .u8 1) _ #[.int .u8 1, .int .u8 0, .int .u32 0, .slice none 0 0] _ rfl (by exact rfl) (by exact rfl) rfl (by kernel_rfl) hg23 rfl rfl (by kernel_rfl) ?_)
  intro W64 hg65 bs66 hb67
  have z68 := hb67.size
  simp only [lay]
  refine wn ?_
  refine wp_sr ?_
  refine lv (.pointer (some ⟨g1, 1, none⟩)) (by exact xf 1 0 Try.underlying46) ?_
  simp only [lay]
  have b69 := b29.trans (hb67.mono l28)
  have has70 := hg3.to b69
  refine lv (.int .u8 m.code) (by exact xc Try.underlying5 (has70.cell 1 rfl)) ?_
  simp only [lay]
  refine wn ?_
  refine wp_block ?_
  refine wp_seq ?_
  refine wp_sr ?_
  by_cases q71 : m.code = 0
  case pos =>
   refine lv (.bool true) (by exact yq) ?_
   simp only [lay]
   refine lv (.bool true) (by exact xa) ?_
   simp only [lay]
   refine wn ?_
   refine cT9 ?_
   refine wp_skip ?_
   change Code.wp _ _ _ _ _
   refine cT9 ?_
   refine wp_sr ?_
   refine lv (.agg #[.int .u8 1, .int .u8 0, .int .u32 0, .slice none 0 0]) (by exact xo (hg65.load (P := Try.prog) 46 Try.underlying46 rfl (by kernel_rfl))) ?_
   simp only [lay]
   have l76 : W9.heap.size ≤ g15 := Nat.le_of_eq ge18.symm
   have b77 := hb20.trans (hb25.mono l76)
   have b78 := b77.trans (hb67.mono l76)
   have has79 := hg10.to b78
   refine lz (ow_st 46 (.tmp 2) (.tmp 38) g8 #[.int .u8 1, .int .u8 0, .int .u32 0, .slice none 0 0] _ _ rfl (by exact rfl) (by exact rfl) has79 (by kernel_rfl) rfl (by kernel_rfl) ?_)
   intro W72 hg73 bs74 hb75
   have z80 := hb75.size
   have has81 := hg65.but6 bs74 (by omega)
   simp only [lay]
   refine lv (.bool true) (by exact xa) ?_
   simp only [lay]
   refine wn ?_
   refine wp_ret ?_
   simp only [Exit.inBlock, Exit.then]
   have e : kind17 m = ((1, 0, 0), true) := by
    unfold kind17
    repeat (first | rw [if_pos (by first | assumption | omega)] | rw [if_neg (by first | assumption | omega)])
    rw [show m.code = 0 from by assumption]
    rfl
   have e2 : (kind17 m).2 = true ∧ (kind17 m).1 = (1, 0, 0) := by rw [e]; exact ⟨rfl, rfl⟩
   have b82 := bt hb6 hb13
   have b83 := bt b82 hb20
   have l84 := lq b82 ge18
   have b85 := b83.trans (hb25.mono l84)
   have b86 := b85.trans (hb67.mono l84)
   have l87 := lq hb6 ge11
   have b88 := b86.trans (hb75.mono l87)
   exact bodyPost_ret (res_cell2 Try.results52 rfl (hg73.load (P := Try.prog) 46 Try.underlying46 rfl (by kernel_rfl)) rfl) rfl ⟨KindR.mk e2.1 (fun _ => e2.2), b88⟩
  refine lv (.bool false) (by exact yqn) ?_
  simp only [lay]
  refine lv (.bool false) (by exact xa) ?_
  simp only [lay]
  refine wn ?_
  refine cF9 ?_
  refine wp_sr ?_
  by_cases q89 : m.code = 1
  case pos =>
   refine lv (.bool true) (by exact yq) ?_
   simp only [lay]
   refine lv (.bool true) (by exact xa) ?_
   simp only [lay]
   refine wn ?_
   refine cT9 ?_
   refine wp_skip ?_
   change Code.wp _ _ _ _ _
   refine cT9 ?_
   refine wp_sr ?_
   refine lv (.agg #[.int .u8 1, .int .u8 0, .int .u32 0, .slice none 0 0]) (by exact xo (hg65.load (P := Try.prog) 46 Try.underlying46 rfl (by kernel_rfl))) ?_
   simp only [lay]
   have l94 : W9.heap.size ≤ g15 := Nat.le_of_eq ge18.symm
   have b95 := hb20.trans (hb25.mono l94)
   have b96 := b95.trans (hb67.mono l94)
   have has97 := hg10.to b96
   refine lz (ow_st 46 (.tmp 2) (.tmp 38) g8 #[.int .u8 1, .int .u8 0, .int .u32 0, .slice none 0 0] _ _ rfl (by exact rfl) (by exact rfl) has97 (by kernel_rfl) rfl (by kernel_rfl) ?_)
   intro W90 hg91 bs92 hb93
   have z98 := hb93.size
   have has99 := hg65.but6 bs92 (by omega)
   simp only [lay]
   refine lv (.bool true) (by exact xa) ?_
   simp only [lay]
   refine wn ?_
   refine wp_ret ?_
   simp only [Exit.inBlock, Exit.then]
   have e : kind17 m = ((1, 0, 0), true) := by
    unfold kind17
    repeat (first | rw [if_pos (by first | assumption | omega)] | rw [if_neg (by first | assumption | omega)])
    rw [show m.code = 1 from by assumption]
    rfl
   have e2 : (kind17 m).2 = true ∧ (kind17 m).1 = (1, 0, 0) := by rw [e]; exact ⟨rfl, rfl⟩
   have b100 := bt hb6 hb13
   have b101 := bt b100 hb20
   have l102 := lq b100 ge18
   have b103 := b101.trans (hb25.mono l102)
   have b104 := b103.trans (hb67.mono l102)
   have l105 := lq hb6 ge11
   have b106 := b104.trans (hb93.mono l105)
   exact bodyPost_ret (res_cell2 Try.results52 rfl (hg91.load (P := Try.prog) 46 Try.underlying46 rfl (by kernel_rfl)) rfl) rfl ⟨KindR.mk e2.1 (fun _ => e2.2), b106⟩
  refine lv (.bool false) (by exact yqn) ?_
  simp only [lay]
  refine lv (.bool false) (by exact xa) ?_
  simp only [lay]
  refine wn ?_
  refine cF9 ?_
  refine wp_sr ?_
  by_cases q107 : m.code = 5
  case pos =>
   refine lv (.bool true) (by exact yq) ?_
   simp only [lay]
   refine lv (.bool true) (by exact xa) ?_
   simp only [lay]
   refine wn ?_
   refine cT9 ?_
   refine wp_skip ?_
   change Code.wp _ _ _ _ _
   refine cT9 ?_
   refine wp_sr ?_
   refine lv (.agg #[.int .u8 1, .int .u8 0, .int .u32 0, .slice none 0 0]) (by exact xo (hg65.load (P := Try.prog) 46 Try.underlying46 rfl (by kernel_rfl))) ?_
   simp only [lay]
   have l112 : W9.heap.size ≤ g15 := Nat.le_of_eq ge18.symm
   have b113 := hb20.trans (hb25.mono l112)
   have b114 := b113.trans (hb67.mono l112)
   have has115 := hg10.to b114
   refine lz (ow_st 46 (.tmp 2) (.tmp 38) g8 #[.int .u8 1, .int .u8 0, .int .u32 0, .slice none 0 0] _ _ rfl (by exact rfl) (by exact rfl) has115 (by kernel_rfl) rfl (by kernel_rfl) ?_)
   intro W108 hg109 bs110 hb111
   have z116 := hb111.size
   have has117 := hg65.but6 bs110 (by omega)
   simp only [lay]
   refine lv (.bool true) (by exact xa) ?_
   simp only [lay]
   refine wn ?_
   refine wp_ret ?_
   simp only [Exit.inBlock, Exit.then]
   have e : kind17 m = ((1, 0, 0), true) := by
    unfold kind17
    repeat (first | rw [if_pos (by first | assumption | omega)] | rw [if_neg (by first | assumption | omega)])
    rw [show m.code = 5 from by assumption]
    rfl
   have e2 : (kind17 m).2 = true ∧ (kind17 m).1 = (1, 0, 0) := by rw [e]; exact ⟨rfl, rfl⟩
   have b118 := bt hb6 hb13
   have b119 := bt b118 hb20
   have l120 := lq b118 ge18
   have b121 := b119.trans (hb25.mono l120)
   have b122 := b121.trans (hb67.mono l120)
   have l123 := lq hb6 ge11
   have b124 := b122.trans (hb111.mono l123)
   exact bodyPost_ret (res_cell2 Try.results52 rfl (hg109.load (P := Try.prog) 46 Try.underlying46 rfl (by kernel_rfl)) rfl) rfl ⟨KindR.mk e2.1 (fun _ => e2.2), b124⟩
  refine lv (.bool false) (by exact yqn) ?_
  simp only [lay]
  refine lv (.bool false) (by exact xa) ?_
  simp only [lay]
  refine wn ?_
  refine cF9 ?_
  refine wp_sr ?_
  by_cases q125 : m.code = 6
  case pos =>
   refine lv (.bool true) (by exact yq) ?_
   simp only [lay]
   refine lv (.bool true) (by exact xa) ?_
   simp only [lay]
   refine wn ?_
   refine cT9 ?_
   refine wp_skip ?_
   change Code.wp _ _ _ _ _
   refine cT9 ?_
   refine wp_sr ?_
   refine lv (.agg #[.int .u8 1, .int .u8 0, .int .u32 0, .slice none 0 0]) (by exact xo (hg65.load (P := Try.prog) 46 Try.underlying46 rfl (by kernel_rfl))) ?_
   simp only [lay]
   have l130 : W9.heap.size ≤ g15 := Nat.le_of_eq ge18.symm
   have b131 := hb20.trans (hb25.mono l130)
   have b132 := b131.trans (hb67.mono l130)
   have has133 := hg10.to b132
   refine lz (ow_st 46 (.tmp 2) (.tmp 38) g8 #[.int .u8 1, .int .u8 0, .int .u32 0, .slice none 0 0] _ _ rfl (by exact rfl) (by exact rfl) has133 (by kernel_rfl) rfl (by kernel_rfl) ?_)
   intro W126 hg127 bs128 hb129
   have z134 := hb129.size
   have has135 := hg65.but6 bs128 (by omega)
   simp only [lay]
   refine lv (.bool true) (by exact xa) ?_
   simp only [lay]
   refine wn ?_
   refine wp_ret ?_
   simp only [Exit.inBlock, Exit.then]
   have e : kind17 m = ((1, 0, 0), true) := by
    unfold kind17
    repeat (first | rw [if_pos (by first | assumption | omega)] | rw [if_neg (by first | assumption | omega)])
    rw [show m.code = 6 from by assumption]
    rfl
   have e2 : (kind17 m).2 = true ∧ (kind17 m).1 = (1, 0, 0) := by rw [e]; exact ⟨rfl, rfl⟩
   have b136 := bt hb6 hb13
   have b137 := bt b136 hb20
   have l138 := lq b136 ge18
   have b139 := b137.trans (hb25.mono l138)
   have b140 := b139.trans (hb67.mono l138)
   have l141 := lq hb6 ge11
   have b142 := b140.trans (hb129.mono l141)
   exact bodyPost_ret (res_cell2 Try.results52 rfl (hg127.load (P := Try.prog) 46 Try.underlying46 rfl (by kernel_rfl)) rfl) rfl ⟨KindR.mk e2.1 (fun _ => e2.2), b142⟩
  refine lv (.bool false) (by exact yqn) ?_
  simp only [lay]
  refine lv (.bool false) (by exact xa) ?_
  simp only [lay]
  refine wn ?_
  refine cF9 ?_
  refine wp_sr ?_
  by_cases q143 : m.code = 7
  case pos =>
   refine lv (.bool true) (by exact yq) ?_
   simp only [lay]
   refine lv (.bool true) (by exact xa) ?_
   simp only [lay]
   refine wn ?_
   refine cT9 ?_
   refine wp_skip ?_
   change Code.wp _ _ _ _ _
   refine cT9 ?_
   refine wp_sr ?_
   refine lv (.agg #[.int .u8 1, .int .u8 0, .int .u32 0, .slice none 0 0]) (by exact xo (hg65.load (P := Try.prog) 46 Try.underlying46 rfl (by kernel_rfl))) ?_
   simp only [lay]
   have l148 : W9.heap.size ≤ g15 := Nat.le_of_eq ge18.symm
   have b149 := hb20.trans (hb25.mono l148)
   have b150 := b149.trans (hb67.mono l148)
   have has151 := hg10.to b150
   refine lz (ow_st 46 (.tmp 2) (.tmp 38) g8 #[.int .u8 1, .int .u8 0, .int .u32 0, .slice none 0 0] _ _ rfl (by exact rfl) (by exact rfl) has151 (by kernel_rfl) rfl (by kernel_rfl) ?_)
   intro W144 hg145 bs146 hb147
   have z152 := hb147.size
   have has153 := hg65.but6 bs146 (by omega)
   simp only [lay]
   refine lv (.bool true) (by exact xa) ?_
   simp only [lay]
   refine wn ?_
   refine wp_ret ?_
   simp only [Exit.inBlock, Exit.then]
   have e : kind17 m = ((1, 0, 0), true) := by
    unfold kind17
    repeat (first | rw [if_pos (by first | assumption | omega)] | rw [if_neg (by first | assumption | omega)])
    rw [show m.code = 7 from by assumption]
    rfl
   have e2 : (kind17 m).2 = true ∧ (kind17 m).1 = (1, 0, 0) := by rw [e]; exact ⟨rfl, rfl⟩
   have b154 := bt hb6 hb13
   have b155 := bt b154 hb20
   have l156 := lq b154 ge18
   have b157 := b155.trans (hb25.mono l156)
   have b158 := b157.trans (hb67.mono l156)
   have l159 := lq hb6 ge11
   have b160 := b158.trans (hb147.mono l159)
   exact bodyPost_ret (res_cell2 Try.results52 rfl (hg145.load (P := Try.prog) 46 Try.underlying46 rfl (by kernel_rfl)) rfl) rfl ⟨KindR.mk e2.1 (fun _ => e2.2), b160⟩
  refine lv (.bool false) (by exact yqn) ?_
  simp only [lay]
  refine lv (.bool false) (by exact xa) ?_
  simp only [lay]
  refine wn ?_
  refine cF9 ?_
  refine wp_sr ?_
  by_cases q161 : m.code = 8
  case pos =>
   refine lv (.bool true) (by exact yq) ?_
   simp only [lay]
   refine lv (.bool true) (by exact xa) ?_
   simp only [lay]
   refine wn ?_
   refine cT9 ?_
   refine wp_skip ?_
   change Code.wp _ _ _ _ _
   refine cT9 ?_
   refine wp_sr ?_
   refine lv (.agg #[.int .u8 1, .int .u8 0, .int .u32 0, .slice none 0 0]) (by exact xo (hg65.load (P := Try.prog) 46 Try.underlying46 rfl (by kernel_rfl))) ?_
   simp only [lay]
   have l166 : W9.heap.size ≤ g15 := Nat.le_of_eq ge18.symm
   have b167 := hb20.trans (hb25.mono l166)
   have b168 := b167.trans (hb67.mono l166)
   have has169 := hg10.to b168
   refine lz (ow_st 46 (.tmp 2) (.tmp 38) g8 #[.int .u8 1, .int .u8 0, .int .u32 0, .slice none 0 0] _ _ rfl (by exact rfl) (by exact rfl) has169 (by kernel_rfl) rfl (by kernel_rfl) ?_)
   intro W162 hg163 bs164 hb165
   have z170 := hb165.size
   have has171 := hg65.but6 bs164 (by omega)
   simp only [lay]
   refine lv (.bool true) (by exact xa) ?_
   simp only [lay]
   refine wn ?_
   refine wp_ret ?_
   simp only [Exit.inBlock, Exit.then]
   have e : kind17 m = ((1, 0, 0), true) := by
    unfold kind17
    repeat (first | rw [if_pos (by first | assumption | omega)] | rw [if_neg (by first | assumption | omega)])
    rw [show m.code = 8 from by assumption]
    rfl
   have e2 : (kind17 m).2 = true ∧ (kind17 m).1 = (1, 0, 0) := by rw [e]; exact ⟨rfl, rfl⟩
   have b172 := bt hb6 hb13
   have b173 := bt b172 hb20
   have l174 := lq b172 ge18
   have b175 := b173.trans (hb25.mono l174)
   have b176 := b175.trans (hb67.mono l174)
   have l177 := lq hb6 ge11
   have b178 := b176.trans (hb165.mono l177)
   exact bodyPost_ret (res_cell2 Try.results52 rfl (hg163.load (P := Try.prog) 46 Try.underlying46 rfl (by kernel_rfl)) rfl) rfl ⟨KindR.mk e2.1 (fun _ => e2.2), b178⟩
  refine lv (.bool false) (by exact yqn) ?_
  simp only [lay]
  refine lv (.bool false) (by exact xa) ?_
  simp only [lay]
  refine wn ?_
  refine cF9 ?_
  refine wp_sr ?_
  by_cases q179 : m.code = 11
  case pos =>
   refine lv (.bool true) (by exact yq) ?_
   simp only [lay]
   refine lv (.bool true) (by exact xa) ?_
   simp only [lay]
   refine wn ?_
   refine cT9 ?_
   refine wp_skip ?_
   change Code.wp _ _ _ _ _
   refine cT9 ?_
   refine wp_sr ?_
   refine lv (.agg #[.int .u8 1, .int .u8 0, .int .u32 0, .slice none 0 0]) (by exact xo (hg65.load (P := Try.prog) 46 Try.underlying46 rfl (by kernel_rfl))) ?_
   simp only [lay]
   have l184 : W9.heap.size ≤ g15 := Nat.le_of_eq ge18.symm
   have b185 := hb20.trans (hb25.mono l184)
   have b186 := b185.trans (hb67.mono l184)
   have has187 := hg10.to b186
   refine lz (ow_st 46 (.tmp 2) (.tmp 38) g8 #[.int .u8 1, .int .u8 0, .int .u32 0, .slice none 0 0] _ _ rfl (by exact rfl) (by exact rfl) has187 (by kernel_rfl) rfl (by kernel_rfl) ?_)
   intro W180 hg181 bs182 hb183
   have z188 := hb183.size
   have has189 := hg65.but6 bs182 (by omega)
   simp only [lay]
   refine lv (.bool true) (by exact xa) ?_
   simp only [lay]
   refine wn ?_
   refine wp_ret ?_
   simp only [Exit.inBlock, Exit.then]
   have e : kind17 m = ((1, 0, 0), true) := by
    unfold kind17
    repeat (first | rw [if_pos (by first | assumption | omega)] | rw [if_neg (by first | assumption | omega)])
    rw [show m.code = 11 from by assumption]
    rfl
   have e2 : (kind17 m).2 = true ∧ (kind17 m).1 = (1, 0, 0) := by rw [e]; exact ⟨rfl, rfl⟩
   have b190 := bt hb6 hb13
   have b191 := bt b190 hb20
   have l192 := lq b190 ge18
   have b193 := b191.trans (hb25.mono l192)
   have b194 := b193.trans (hb67.mono l192)
   have l195 := lq hb6 ge11
   have b196 := b194.trans (hb183.mono l195)
   exact bodyPost_ret (res_cell2 Try.results52 rfl (hg181.load (P := Try.prog) 46 Try.underlying46 rfl (by kernel_rfl)) rfl) rfl ⟨KindR.mk e2.1 (fun _ => e2.2), b196⟩
  refine lv (.bool false) (by exact yqn) ?_
  simp only [lay]
  refine lv (.bool false) (by exact xa) ?_
  simp only [lay]
  refine wn ?_
  refine cF9 ?_
  refine wp_region_lit ?_
  by_cases q197 : m.code = 12
  case pos =>
   refine lv (.bool true) (by exact yq) ?_
   simp only [lay]
   refine lv (.bool true) (by exact xa) ?_
   simp only [lay]
   refine wn ?_
   refine cT9 ?_
   refine wp_sr ?_
   refine lv (.agg #[.int .u8 1, .int .u8 0, .int .u32 0, .slice none 0 0]) (by exact xo (hg65.load (P := Try.prog) 46 Try.underlying46 rfl (by kernel_rfl))) ?_
   simp only [lay]
   have l202 : W9.heap.size ≤ g15 := Nat.le_of_eq ge18.symm
   have b203 := hb20.trans (hb25.mono l202)
   have b204 := b203.trans (hb67.mono l202)
   have has205 := hg10.to b204
   refine lz (ow_st 46 (.tmp 2) (.tmp 38) g8 #[.int .u8 1, .int .u8 0, .int .u32 0, .slice none 0 0] _ _ rfl (by exact rfl) (by exact rfl) has205 (by kernel_rfl) rfl (by kernel_rfl) ?_)
   intro W198 hg199 bs200 hb201
   have z206 := hb201.size
   have has207 := hg65.but6 bs200 (by omega)
   simp only [lay]
   refine lv (.bool true) (by exact xa) ?_
   simp only [lay]
   refine wn ?_
   refine wp_ret ?_
   simp only [Exit.inBlock, Exit.then]
   have e : kind17 m = ((1, 0, 0), true) := by
    unfold kind17
    repeat (first | rw [if_pos (by first | assumption | omega)] | rw [if_neg (by first | assumption | omega)])
    rw [show m.code = 12 from by assumption]
    rfl
   have e2 : (kind17 m).2 = true ∧ (kind17 m).1 = (1, 0, 0) := by rw [e]; exact ⟨rfl, rfl⟩
   have b208 := bt hb6 hb13
   have b209 := bt b208 hb20
   have l210 := lq b208 ge18
   have b211 := b209.trans (hb25.mono l210)
   have b212 := b211.trans (hb67.mono l210)
   have l213 := lq hb6 ge11
   have b214 := b212.trans (hb201.mono l213)
   exact bodyPost_ret (res_cell2 Try.results52 rfl (hg199.load (P := Try.prog) 46 Try.underlying46 rfl (by kernel_rfl)) rfl) rfl ⟨KindR.mk e2.1 (fun _ => e2.2), b214⟩
  refine lv (.bool false) (by exact yqn) ?_
  simp only [lay]
  refine lv (.bool false) (by exact xa) ?_
  simp only [lay]
  refine wn ?_
  refine cF9 ?_
  refine wp_seq ?_
  refine wp_sr ?_
  by_cases q215 : m.code = 9
  case pos =>
   refine lv (.bool true) (by exact yq) ?_
   simp only [lay]
   refine lv (.bool true) (by exact xa) ?_
   simp only [lay]
   refine wn ?_
   refine cT9 ?_
   refine wp_skip ?_
   change Code.wp _ _ _ _ _
   refine cT9 ?_
   refine wp_sr ?_
   refine lv (.pointer (some ⟨g15, 1, none⟩)) (by exact xf 1 0 Try.underlying46) ?_
   simp only [lay]
   refine lz (ow_st1 5 (.tmp 44) (.const (.int .u8 1)) g15 1 (.int .u8 1) _ #[.int .u8 1, .int .u8 1, .int .u32 0, .slice none 0 0] _ rfl (by exact rfl) (by exact rfl) rfl (by kernel_rfl) hg65 rfl rfl (by kernel_rfl) ?_)
   intro W216 hg217 bs218 hb219
   have z220 := hb219.size
   simp only [lay]
   refine wn ?_
   refine wp_sr ?_
   refine lv (.agg #[.int .u8 1, .int .u8 1, .int .u32 0, .slice none 0 0]) (by exact xo (hg217.load (P := Try.prog) 46 Try.underlying46 rfl (by kernel_rfl))) ?_
   simp only [lay]
   have l225 : W9.heap.size ≤ g15 := Nat.le_of_eq ge18.symm
   have b226 := hb20.trans (hb25.mono l225)
   have b227 := b226.trans (hb67.mono l225)
   have b228 := b227.trans (hb219.mono l225)
   have has229 := hg10.to b228
   refine lz (ow_st 46 (.tmp 2) (.tmp 45) g8 #[.int .u8 1, .int .u8 1, .int .u32 0, .slice none 0 0] _ _ rfl (by exact rfl) (by exact rfl) has229 (by kernel_rfl) rfl (by kernel_rfl) ?_)
   intro W221 hg222 bs223 hb224
   have z230 := hb224.size
   have has231 := hg217.but6 bs223 (by omega)
   simp only [lay]
   refine lv (.bool true) (by exact xa) ?_
   simp only [lay]
   refine wn ?_
   refine wp_ret ?_
   simp only [Exit.inBlock, Exit.then]
   have e : kind17 m = ((1, 1, 0), true) := by
    unfold kind17
    repeat (first | rw [if_pos (by first | assumption | omega)] | rw [if_neg (by first | assumption | omega)])
    rw [show m.code = 9 from by assumption]
    rfl
   have e2 : (kind17 m).2 = true ∧ (kind17 m).1 = (1, 1, 0) := by rw [e]; exact ⟨rfl, rfl⟩
   have b232 := bt hb6 hb13
   have b233 := bt b232 hb20
   have l234 := lq b232 ge18
   have b235 := b233.trans (hb25.mono l234)
   have b236 := b235.trans (hb67.mono l234)
   have b237 := b236.trans (hb219.mono l234)
   have l238 := lq hb6 ge11
   have b239 := b237.trans (hb224.mono l238)
   exact bodyPost_ret (res_cell2 Try.results52 rfl (hg222.load (P := Try.prog) 46 Try.underlying46 rfl (by kernel_rfl)) rfl) rfl ⟨KindR.mk e2.1 (fun _ => e2.2), b239⟩
  refine lv (.bool false) (by exact yqn) ?_
  simp only [lay]
  refine lv (.bool false) (by exact xa) ?_
  simp only [lay]
  refine wn ?_
  refine cF9 ?_
  refine wp_sr ?_
  by_cases q240 : m.code = 10
  case pos =>
   refine lv (.bool true) (by exact yq) ?_
   simp only [lay]
   refine lv (.bool true) (by exact xa) ?_
   simp only [lay]
   refine wn ?_
   refine cT9 ?_
   refine wp_skip ?_
   change Code.wp _ _ _ _ _
   refine cT9 ?_
   refine wp_sr ?_
   refine lv (.pointer (some ⟨g15, 1, none⟩)) (by exact xf 1 0 Try.underlying46) ?_
   simp only [lay]
   refine lz (ow_st1 5 (.tmp 44) (.const (.int .u8 1)) g15 1 (.int .u8 1) _ #[.int .u8 1, .int .u8 1, .int .u32 0, .slice none 0 0] _ rfl (by exact rfl) (by exact rfl) rfl (by kernel_rfl) hg65 rfl rfl (by kernel_rfl) ?_)
   intro W241 hg242 bs243 hb244
   have z245 := hb244.size
   simp only [lay]
   refine wn ?_
   refine wp_sr ?_
   refine lv (.agg #[.int .u8 1, .int .u8 1, .int .u32 0, .slice none 0 0]) (by exact xo (hg242.load (P := Try.prog) 46 Try.underlying46 rfl (by kernel_rfl))) ?_
   simp only [lay]
   have l250 : W9.heap.size ≤ g15 := Nat.le_of_eq ge18.symm
   have b251 := hb20.trans (hb25.mono l250)
   have b252 := b251.trans (hb67.mono l250)
   have b253 := b252.trans (hb244.mono l250)
   have has254 := hg10.to b253
   refine lz (ow_st 46 (.tmp 2) (.tmp 45) g8 #[.int .u8 1, .int .u8 1, .int .u32 0, .slice none 0 0] _ _ rfl (by exact rfl) (by exact rfl) has254 (by kernel_rfl) rfl (by kernel_rfl) ?_)
   intro W246 hg247 bs248 hb249
   have z255 := hb249.size
   have has256 := hg242.but6 bs248 (by omega)
   simp only [lay]
   refine lv (.bool true) (by exact xa) ?_
   simp only [lay]
   refine wn ?_
   refine wp_ret ?_
   simp only [Exit.inBlock, Exit.then]
   have e : kind17 m = ((1, 1, 0), true) := by
    unfold kind17
    repeat (first | rw [if_pos (by first | assumption | omega)] | rw [if_neg (by first | assumption | omega)])
    rw [show m.code = 10 from by assumption]
    rfl
   have e2 : (kind17 m).2 = true ∧ (kind17 m).1 = (1, 1, 0) := by rw [e]; exact ⟨rfl, rfl⟩
   have b257 := bt hb6 hb13
   have b258 := bt b257 hb20
   have l259 := lq b257 ge18
   have b260 := b258.trans (hb25.mono l259)
   have b261 := b260.trans (hb67.mono l259)
   have b262 := b261.trans (hb244.mono l259)
   have l263 := lq hb6 ge11
   have b264 := b262.trans (hb249.mono l263)
   exact bodyPost_ret (res_cell2 Try.results52 rfl (hg247.load (P := Try.prog) 46 Try.underlying46 rfl (by kernel_rfl)) rfl) rfl ⟨KindR.mk e2.1 (fun _ => e2.2), b264⟩
  refine lv (.bool false) (by exact yqn) ?_
  simp only [lay]
  refine lv (.bool false) (by exact xa) ?_
  simp only [lay]
  refine wn ?_
  refine cF9 ?_
  refine wp_sr ?_
  by_cases q265 : m.code = 13
  case pos =>
   refine lv (.bool true) (by exact yq) ?_
   simp only [lay]
   refine lv (.bool true) (by exact xa) ?_
   simp only [lay]
   refine wn ?_
   refine cT9 ?_
   refine wp_skip ?_
   change Code.wp _ _ _ _ _
   refine cT9 ?_
   refine wp_sr ?_
   refine lv (.pointer (some ⟨g15, 1, none⟩)) (by exact xf 1 0 Try.underlying46) ?_
   simp only [lay]
   refine lz (ow_st1 5 (.tmp 44) (.const (.int .u8 1)) g15 1 (.int .u8 1) _ #[.int .u8 1, .int .u8 1, .int .u32 0, .slice none 0 0] _ rfl (by exact rfl) (by exact rfl) rfl (by kernel_rfl) hg65 rfl rfl (by kernel_rfl) ?_)
   intro W266 hg267 bs268 hb269
   have z270 := hb269.size
   simp only [lay]
   refine wn ?_
   refine wp_sr ?_
   refine lv (.agg #[.int .u8 1, .int .u8 1, .int .u32 0, .slice none 0 0]) (by exact xo (hg267.load (P := Try.prog) 46 Try.underlying46 rfl (by kernel_rfl))) ?_
   simp only [lay]
   have l275 : W9.heap.size ≤ g15 := Nat.le_of_eq ge18.symm
   have b276 := hb20.trans (hb25.mono l275)
   have b277 := b276.trans (hb67.mono l275)
   have b278 := b277.trans (hb269.mono l275)
   have has279 := hg10.to b278
   refine lz (ow_st 46 (.tmp 2) (.tmp 45) g8 #[.int .u8 1, .int .u8 1, .int .u32 0, .slice none 0 0] _ _ rfl (by exact rfl) (by exact rfl) has279 (by kernel_rfl) rfl (by kernel_rfl) ?_)
   intro W271 hg272 bs273 hb274
   have z280 := hb274.size
   have has281 := hg267.but6 bs273 (by omega)
   simp only [lay]
   refine lv (.bool true) (by exact xa) ?_
   simp only [lay]
   refine wn ?_
   refine wp_ret ?_
   simp only [Exit.inBlock, Exit.then]
   have e : kind17 m = ((1, 1, 0), true) := by
    unfold kind17
    repeat (first | rw [if_pos (by first | assumption | omega)] | rw [if_neg (by first | assumption | omega)])
    rw [show m.code = 13 from by assumption]
    rfl
   have e2 : (kind17 m).2 = true ∧ (kind17 m).1 = (1, 1, 0) := by rw [e]; exact ⟨rfl, rfl⟩
   have b282 := bt hb6 hb13
   have b283 := bt b282 hb20
   have l284 := lq b282 ge18
   have b285 := b283.trans (hb25.mono l284)
   have b286 := b285.trans (hb67.mono l284)
   have b287 := b286.trans (hb269.mono l284)
   have l288 := lq hb6 ge11
   have b289 := b287.trans (hb274.mono l288)
   exact bodyPost_ret (res_cell2 Try.results52 rfl (hg272.load (P := Try.prog) 46 Try.underlying46 rfl (by kernel_rfl)) rfl) rfl ⟨KindR.mk e2.1 (fun _ => e2.2), b289⟩
  refine lv (.bool false) (by exact yqn) ?_
  simp only [lay]
  refine lv (.bool false) (by exact xa) ?_
  simp only [lay]
  refine wn ?_
  refine cF9 ?_
  refine wp_region_lit ?_
  by_cases q290 : m.code = 15
  case pos =>
   refine lv (.bool true) (by exact yq) ?_
   simp only [lay]
   refine lv (.bool true) (by exact xa) ?_
   simp only [lay]
   refine wn ?_
   refine cT9 ?_
   refine wp_sr ?_
   refine lv (.pointer (some ⟨g15, 1, none⟩)) (by exact xf 1 0 Try.underlying46) ?_
   simp only [lay]
   refine lz (ow_st1 5 (.tmp 44) (.const (.int .u8 1)) g15 1 (.int .u8 1) _ #[.int .u8 1, .int .u8 1, .int .u32 0, .slice none 0 0] _ rfl (by exact rfl) (by exact rfl) rfl (by kernel_rfl) hg65 rfl rfl (by kernel_rfl) ?_)
   intro W291 hg292 bs293 hb294
   have z295 := hb294.size
   simp only [lay]
   refine wn ?_
   refine wp_sr ?_
   refine lv (.agg #[.int .u8 1, .int .u8 1, .int .u32 0, .slice none 0 0]) (by exact xo (hg292.load (P := Try.prog) 46 Try.underlying46 rfl (by kernel_rfl))) ?_
   simp only [lay]
   have l300 : W9.heap.size ≤ g15 := Nat.le_of_eq ge18.symm
   have b301 := hb20.trans (hb25.mono l300)
   have b302 := b301.trans (hb67.mono l300)
   have b303 := b302.trans (hb294.mono l300)
   have has304 := hg10.to b303
   refine lz (ow_st 46 (.tmp 2) (.tmp 45) g8 #[.int .u8 1, .int .u8 1, .int .u32 0, .slice none 0 0] _ _ rfl (by exact rfl) (by exact rfl) has304 (by kernel_rfl) rfl (by kernel_rfl) ?_)
   intro W296 hg297 bs298 hb299
   have z305 := hb299.size
   have has306 := hg292.but6 bs298 (by omega)
   simp only [lay]
   refine lv (.bool true) (by exact xa) ?_
   simp only [lay]
   refine wn ?_
   refine wp_ret ?_
   simp only [Exit.inBlock, Exit.then]
   have e : kind17 m = ((1, 1, 0), true) := by
    unfold kind17
    repeat (first | rw [if_pos (by first | assumption | omega)] | rw [if_neg (by first | assumption | omega)])
    rw [show m.code = 15 from by assumption]
    rfl
   have e2 : (kind17 m).2 = true ∧ (kind17 m).1 = (1, 1, 0) := by rw [e]; exact ⟨rfl, rfl⟩
   have b307 := bt hb6 hb13
   have b308 := bt b307 hb20
   have l309 := lq b307 ge18
   have b310 := b308.trans (hb25.mono l309)
   have b311 := b310.trans (hb67.mono l309)
   have b312 := b311.trans (hb294.mono l309)
   have l313 := lq hb6 ge11
   have b314 := b312.trans (hb299.mono l313)
   exact bodyPost_ret (res_cell2 Try.results52 rfl (hg297.load (P := Try.prog) 46 Try.underlying46 rfl (by kernel_rfl)) rfl) rfl ⟨KindR.mk e2.1 (fun _ => e2.2), b314⟩
  refine lv (.bool false) (by exact yqn) ?_
  simp only [lay]
  refine lv (.bool false) (by exact xa) ?_
  simp only [lay]
  refine wn ?_
  refine cF9 ?_
  refine wp_sr ?_
  by_cases q315 : m.code = 3
  case pos =>
   refine lv (.bool true) (by exact yq) ?_
   simp only [lay]
   refine lv (.bool true) (by exact xa) ?_
   simp only [lay]
   refine wn ?_
   refine cT9 ?_
   refine wp_sr ?_
   refine lv (.pointer (some ⟨g15, 1, none⟩)) (by exact xf 1 0 Try.underlying46) ?_
   simp only [lay]
   refine lz (ow_st1 5 (.tmp 48) (.const (.int .u8 4)) g15 1 (.int .u8 4) _ #[.int .u8 1, .int .u8 4, .int .u32 0, .slice none 0 0] _ rfl (by exact rfl) (by exact rfl) rfl (by kernel_rfl) hg65 rfl rfl (by kernel_rfl) ?_)
   intro W316 hg317 bs318 hb319
   have z320 := hb319.size
   simp only [lay]
   refine wn ?_
   refine wp_sr ?_
   refine lv (.agg #[.int .u8 1, .int .u8 4, .int .u32 0, .slice none 0 0]) (by exact xo (hg317.load (P := Try.prog) 46 Try.underlying46 rfl (by kernel_rfl))) ?_
   simp only [lay]
   have l325 : W9.heap.size ≤ g15 := Nat.le_of_eq ge18.symm
   have b326 := hb20.trans (hb25.mono l325)
   have b327 := b326.trans (hb67.mono l325)
   have b328 := b327.trans (hb319.mono l325)
   have has329 := hg10.to b328
   refine lz (ow_st 46 (.tmp 2) (.tmp 49) g8 #[.int .u8 1, .int .u8 4, .int .u32 0, .slice none 0 0] _ _ rfl (by exact rfl) (by exact rfl) has329 (by kernel_rfl) rfl (by kernel_rfl) ?_)
   intro W321 hg322 bs323 hb324
   have z330 := hb324.size
   have has331 := hg317.but6 bs323 (by omega)
   simp only [lay]
   refine lv (.bool true) (by exact xa) ?_
   simp only [lay]
   refine wn ?_
   refine wp_ret ?_
   simp only [Exit.inBlock, Exit.then]
   have e : kind17 m = ((1, 4, 0), true) := by
    unfold kind17
    repeat (first | rw [if_pos (by first | assumption | omega)] | rw [if_neg (by first | assumption | omega)])
    rw [show m.code = 3 from by assumption]
    rfl
   have e2 : (kind17 m).2 = true ∧ (kind17 m).1 = (1, 4, 0) := by rw [e]; exact ⟨rfl, rfl⟩
   have b332 := bt hb6 hb13
   have b333 := bt b332 hb20
   have l334 := lq b332 ge18
   have b335 := b333.trans (hb25.mono l334)
   have b336 := b335.trans (hb67.mono l334)
   have b337 := b336.trans (hb319.mono l334)
   have l338 := lq hb6 ge11
   have b339 := b337.trans (hb324.mono l338)
   exact bodyPost_ret (res_cell2 Try.results52 rfl (hg322.load (P := Try.prog) 46 Try.underlying46 rfl (by kernel_rfl)) rfl) rfl ⟨KindR.mk e2.1 (fun _ => e2.2), b339⟩
  refine lv (.bool false) (by exact yqn) ?_
  simp only [lay]
  refine lv (.bool false) (by exact xa) ?_
  simp only [lay]
  refine wn ?_
  refine cF9 ?_
  refine wp_sr ?_
  by_cases q340 : m.code = 2
  case pos =>
   refine lv (.bool true) (by exact yq) ?_
   simp only [lay]
   refine lv (.bool true) (by exact xa) ?_
   simp only [lay]
   refine wn ?_
   refine cT9 ?_
   refine wp_sr ?_
   refine lv (.agg #[.int .u8 4, .int .u8 1, .int .u32 6, .slice none 0 0]) (by kernel_rfl) ?_
   simp only [lay]
   have l345 : W9.heap.size ≤ g15 := Nat.le_of_eq ge18.symm
   have b346 := hb20.trans (hb25.mono l345)
   have b347 := b346.trans (hb67.mono l345)
   have has348 := hg10.to b347
   refine lz (ow_st 46 (.tmp 2) (.tmp 52) g8 #[.int .u8 4, .int .u8 1, .int .u32 6, .slice none 0 0] _ _ rfl (by exact rfl) (by exact rfl) has348 (by kernel_rfl) rfl (by kernel_rfl) ?_)
   intro W341 hg342 bs343 hb344
   have z349 := hb344.size
   have has350 := hg65.but6 bs343 (by omega)
   simp only [lay]
   refine lv (.bool true) (by exact xa) ?_
   simp only [lay]
   refine wn ?_
   refine wp_ret ?_
   simp only [Exit.inBlock, Exit.then]
   have e : kind17 m = ((4, 1, 6), true) := by
    unfold kind17
    repeat (first | rw [if_pos (by first | assumption | omega)] | rw [if_neg (by first | assumption | omega)])
   have e2 : (kind17 m).2 = true ∧ (kind17 m).1 = (4, 1, 6) := by rw [e]; exact ⟨rfl, rfl⟩
   have b351 := bt hb6 hb13
   have b352 := bt b351 hb20
   have l353 := lq b351 ge18
   have b354 := b352.trans (hb25.mono l353)
   have b355 := b354.trans (hb67.mono l353)
   have l356 := lq hb6 ge11
   have b357 := b355.trans (hb344.mono l356)
   exact bodyPost_ret (res_cell2 Try.results52 rfl (hg342.load (P := Try.prog) 46 Try.underlying46 rfl (by kernel_rfl)) rfl) rfl ⟨KindR.mk e2.1 (fun _ => e2.2), b357⟩
  refine lv (.bool false) (by exact yqn) ?_
  simp only [lay]
  refine lv (.bool false) (by exact xa) ?_
  simp only [lay]
  refine wn ?_
  refine cF9 ?_
  refine wp_sr ?_
  by_cases q358 : m.code = 4
  case pos =>
   refine lv (.bool true) (by exact yq) ?_
   simp only [lay]
   refine lv (.bool true) (by exact xa) ?_
   simp only [lay]
   refine wn ?_
   refine cT9 ?_
   refine wp_sr ?_
   refine lv (.pointer (some ⟨g1, 2, none⟩)) (by exact xf 2 0 Try.underlying46) ?_
   simp only [lay]
   refine lv (.int .u32 m.rest) (by exact xc Try.underlying33 (has70.cell 2 rfl)) ?_
   simp only [lay]
   refine lv (.int .u16 (m.rest % 65536)) (by exact xv (conv_u16m _ _ _ _ (by kernel_rfl) Try.underlying22 _)) ?_
   simp only [lay]
   refine lz (ow_same (.int .u32 (mtu17 (m.rest % 65536))) (by exact xk Try.func31) (rmtu17_any (m.rest % 65536) (by omega) W64) ?_)
   simp only [lay]
   refine lv (.agg #[.int .u8 2, .int .u8 0, .int .u32 (mtu17 (m.rest % 65536)), .slice none 0 0]) (by kernel_rfl) ?_
   simp only [lay]
   have l363 : W9.heap.size ≤ g15 := Nat.le_of_eq ge18.symm
   have b364 := hb20.trans (hb25.mono l363)
   have b365 := b364.trans (hb67.mono l363)
   have has366 := hg10.to b365
   refine lz (ow_st 46 (.tmp 2) (.tmp 59) g8 #[.int .u8 2, .int .u8 0, .int .u32 (mtu17 (m.rest % 65536)), .slice none 0 0] _ _ rfl (by exact rfl) (by exact rfl) has366 (by kernel_rfl) rfl (by kernel_rfl) ?_)
   intro W359 hg360 bs361 hb362
   have z367 := hb362.size
   have has368 := hg65.but6 bs361 (by omega)
   simp only [lay]
   refine lv (.bool true) (by exact xa) ?_
   simp only [lay]
   refine wn ?_
   refine wp_ret ?_
   simp only [Exit.inBlock, Exit.then]
   have e : kind17 m = ((2, 0, mtu17 (m.rest % 65536)), true) := by
    unfold kind17
    repeat (first | rw [if_pos (by first | assumption | omega)] | rw [if_neg (by first | assumption | omega)])
   have e2 : (kind17 m).2 = true ∧ (kind17 m).1 = (2, 0, mtu17 (m.rest % 65536)) := by rw [e]; exact ⟨rfl, rfl⟩
   have b369 := bt hb6 hb13
   have b370 := bt b369 hb20
   have l371 := lq b369 ge18
   have b372 := b370.trans (hb25.mono l371)
   have b373 := b372.trans (hb67.mono l371)
   have l374 := lq hb6 ge11
   have b375 := b373.trans (hb362.mono l374)
   exact bodyPost_ret (res_cell2 Try.results52 rfl (hg360.load (P := Try.prog) 46 Try.underlying46 rfl (by kernel_rfl)) rfl) rfl ⟨KindR.mk e2.1 (fun _ => e2.2), b375⟩
  refine lv (.bool false) (by exact yqn) ?_
  simp only [lay]
  refine lv (.bool false) (by exact xa) ?_
  simp only [lay]
  refine wn ?_
  refine cF9 ?_
  refine wp_skip ?_
  change Code.wp _ _ _ _ _
  refine wp_sr ?_
  refine lv (.agg #[.int .u8 1, .int .u8 0, .int .u32 0, .slice none 0 0]) (by exact xo (hg65.load (P := Try.prog) 46 Try.underlying46 rfl (by kernel_rfl))) ?_
  simp only [lay]
  have l380 : W9.heap.size ≤ g15 := Nat.le_of_eq ge18.symm
  have b381 := hb20.trans (hb25.mono l380)
  have b382 := b381.trans (hb67.mono l380)
  have has383 := hg10.to b382
  refine lz (ow_st 46 (.tmp 2) (.tmp 88) g8 #[.int .u8 1, .int .u8 0, .int .u32 0, .slice none 0 0] _ _ rfl (by exact rfl) (by exact rfl) has383 (by kernel_rfl) rfl (by kernel_rfl) ?_)
  intro W376 hg377 bs378 hb379
  have z384 := hb379.size
  have has385 := hg65.but6 bs378 (by omega)
  simp only [lay]
  refine lv (.bool false) (by exact xa) ?_
  simp only [lay]
  refine wn ?_
  refine wp_ret ?_
  try simp only [Exit.then]
  have e : (kind17 m).2 = false := by
   unfold kind17
   repeat (first | rw [if_pos (by first | assumption | omega)] | rw [if_neg (by first | assumption | omega)])
   unfold unr17
   repeat (first | rw [if_pos (by first | assumption | omega)] | rw [if_neg (by first | assumption | omega)])
   try simp [*]
  have b386 := bt hb6 hb13
  have b387 := bt b386 hb20
  have l388 := lq b386 ge18
  have b389 := b387.trans (hb25.mono l388)
  have b390 := b389.trans (hb67.mono l388)
  have l391 := lq hb6 ge11
  have b392 := b390.trans (hb379.mono l391)
  exact bodyPost_ret (res_cell2 Try.results52 rfl (hg377.load (P := Try.prog) 46 Try.underlying46 rfl (by kernel_rfl)) rfl) rfl ⟨KindR.mk e (fun h => by cases h), b392⟩
 refine lv (.bool false) (by exact yqn) ?_
 simp only [lay]
 refine lv (.bool false) (by exact xa) ?_
 simp only [lay]
 refine wn ?_
 refine cF9 ?_
 refine wp_sr ?_
 by_cases q393 : m.ty = 11
 case pos =>
  refine lv (.bool true) (by exact yq) ?_
  simp only [lay]
  refine lv (.bool true) (by exact xa) ?_
  simp only [lay]
  refine wn ?_
  refine cT9 ?_
  refine wp_sr ?_
  refine lv (.pointer (some ⟨g1, 1, none⟩)) (by exact xf 1 0 Try.underlying46) ?_
  simp only [lay]
  refine lv (.int .u8 m.code) (by exact xc Try.underlying5 (has30.cell 1 rfl)) ?_
  simp only [lay]
  refine lv (.agg #[.int .u8 3, .int .u8 m.code, .int .u32 0, .slice none 0 0]) (by kernel_rfl) ?_
  simp only [lay]
  have l398 : W9.heap.size ≤ g15 := Nat.le_of_eq ge18.symm
  have b399 := hb20.trans (hb25.mono l398)
  have has400 := hg10.to b399
  refine lz (ow_st 46 (.tmp 2) (.tmp 64) g8 #[.int .u8 3, .int .u8 m.code, .int .u32 0, .slice none 0 0] _ _ rfl (by exact rfl) (by exact rfl) has400 (by kernel_rfl) rfl (by kernel_rfl) ?_)
  intro W394 hg395 bs396 hb397
  have z401 := hb397.size
  have has402 := hg23.but6 bs396 (by omega)
  simp only [lay]
  refine lv (.bool true) (by exact xa) ?_
  simp only [lay]
  refine wn ?_
  refine wp_ret ?_
  simp only [Exit.inBlock, Exit.then]
  have e : kind17 m = ((3, m.code, 0), true) := by
   unfold kind17
   repeat (first | rw [if_pos (by first | assumption | omega)] | rw [if_neg (by first | assumption | omega)])
  have e2 : (kind17 m).2 = true ∧ (kind17 m).1 = (3, m.code, 0) := by rw [e]; exact ⟨rfl, rfl⟩
  have b403 := bt hb6 hb13
  have b404 := bt b403 hb20
  have l405 := lq b403 ge18
  have b406 := b404.trans (hb25.mono l405)
  have l407 := lq hb6 ge11
  have b408 := b406.trans (hb397.mono l407)
  exact bodyPost_ret (res_cell2 Try.results52 rfl (hg395.load (P := Try.prog) 46 Try.underlying46 rfl (by kernel_rfl)) rfl) rfl ⟨KindR.mk e2.1 (fun _ => e2.2), b408⟩
 refine lv (.bool false) (by exact yqn) ?_
 simp only [lay]
 refine lv (.bool false) (by exact xa) ?_
 simp only [lay]
 refine wn ?_
 refine cF9 ?_
 refine wp_sr ?_
 by_cases q409 : m.ty = 12
 case pos =>
  refine lv (.bool true) (by exact yq) ?_
  simp only [lay]
  refine lv (.bool true) (by exact xa) ?_
  simp only [lay]
  refine wn ?_
  refine cT9 ?_
  refine wp_sr ?_
  refine lv (.pointer (some ⟨g1, 2, none⟩)) (by exact xf 2 0 Try.underlying46) ?_
  simp only [lay]
  refine lv (.int .u32 m.rest) (by exact xc Try.underlying33 (has30.cell 2 rfl)) ?_
  simp only [lay]
  refine lv (.int .u32 (m.rest / 16777216)) (by exact xb (b_shr .u32 _ 24 (m.rest / 16777216) rfl (by decide) _)) ?_
  simp only [lay]
  refine lv (.int .u8 (m.rest / 16777216)) (by exact xv (conv_u8' 33 5 .u32 (m.rest / 16777216) (by kernel_rfl) Try.underlying5 (by omega) _)) ?_
  simp only [lay]
  refine lz (ow_same (.tuple #[.int .u32 ((ptr17 (m.rest / 16777216)).1), .bool ((ptr17 (m.rest / 16777216)).2)]) (by exact xk Try.func29) (rptr17_any (m.rest / 16777216) (by omega) W22) ?_)
  simp only [lay]
  refine lv (.tuple #[.int .u32 ((ptr17 (m.rest / 16777216)).1), .bool ((ptr17 (m.rest / 16777216)).2)]) (by exact xm) ?_
  simp only [lay]
  refine lv (.int .u32 ((ptr17 (m.rest / 16777216)).1)) (by exact xe) ?_
  simp only [lay]
  refine lv (.bool ((ptr17 (m.rest / 16777216)).2)) (by exact xe) ?_
  simp only [lay]
  refine lv (.int .u32 ((ptr17 (m.rest / 16777216)).1)) (by exact xa) ?_
  simp only [lay]
  refine lv (.bool ((ptr17 (m.rest / 16777216)).2)) (by exact xa) ?_
  simp only [lay]
  refine wn ?_
  refine wp_seq ?_
  refine rg_drawn g8 (by kernel_rfl) (by omega) ?_
  intro W410 hb411 hs412 hS413
  have z414 := hb411.size
  refine te 0 (.int .u32 ((ptr17 (m.rest / 16777216)).1)) hS413 rfl (by intro _ _; exact xm) ?_
  simp only [lay]
  refine te 1 (.agg #[.int .u8 4, .int .u8 0, .int .u32 ((ptr17 (m.rest / 16777216)).1), .slice none 0 0]) hS413 rfl (by intro _ _; kernel_rfl) ?_
  simp only [lay]
  refine te 2 (.bool ((ptr17 (m.rest / 16777216)).2)) hS413 rfl (by intro _ _; exact xm) ?_
  simp only [lay]
  refine te 3 (.bool ((ptr17 (m.rest / 16777216)).2)) hS413 rfl (by intro _ _; exact xm) ?_
  simp only [lay]
  by_cases q415 : (ptr17 (m.rest / 16777216)).2 = true
  case pos =>
   rw [q415]
   refine te 4 (.pointer (some ⟨g1, 1, none⟩)) hS413 rfl (by intro _ _; exact xf 1 0 Try.underlying46) ?_
   simp only [lay]
   have l416 : W2.heap.size ≤ g8 := Nat.le_of_eq ge11.symm
   refine te 5 (.int .u8 m.code) hS413 rfl (by intro _ h; exact xc Try.underlying5 ((hg3.to (b29.trans (Below.mono h l416))).cell 1 rfl)) ?_
   simp only [lay]
   by_cases q417 : m.code = 0
   case pos =>
    refine te 6 (.bool true) hS413 rfl (by intro _ _; exact yq) ?_
    simp only [lay]
    refine te 7 (.bool true) hS413 rfl (by intro _ _; exact xm) ?_
    simp only [lay]
    refine tn 8 hS413 rfl ?_
    simp only [lay]
    refine tn 9 hS413 rfl ?_
    simp only [lay]
    refine tn 10 hS413 rfl ?_
    simp only [lay]
    refine te 11 (.bool true) hS413 rfl (by intro _ _; exact xp (b := true)) ?_
    simp only [lay]
    refine te 12 (.bool true) hS413 rfl (by intro _ _; exact xp (b := true)) ?_
    simp only [lay]
    have l422 : W9.heap.size ≤ g15 := Nat.le_of_eq ge18.symm
    have b423 := hb20.trans (hb25.mono l422)
    have b424 := bt b423 hb411
    have has425 := hg10.to b424
    refine t1 13 rfl (ow_st 46 (.tmp 2) (.tmp 76) g8 #[.int .u8 4, .int .u8 0, .int .u32 ((ptr17 (m.rest / 16777216)).1), .slice none 0 0] _ _ rfl (by exact rfl) (by exact rfl) has425 (by kernel_rfl) rfl (by kernel_rfl) ?_)
    intro W418 hg419 bs420 hb421
    have has426 := hg23.to hb411
    have z427 := hb421.size
    have has428 := has426.but6 bs420 (by omega)
    refine ⟨(Below.trans hS413 hb421), ?_⟩
    have hS429 := (Below.trans hS413 hb421)
    simp only [lay]
    refine te 14 (.bool true) hS429 rfl (by intro _ _; exact xa) ?_
    simp only [lay]
    refine wpAnyH_done (by kernel_rfl) ?_ _
    change Code.wp _ _ _ _ _
    refine wp_ret ?_
    simp only [Exit.inBlock, Exit.then]
    have e : kind17 m = ((4, 0, (ptr17 (m.rest / 16777216)).1), true) := by
     unfold kind17
     repeat (first | rw [if_pos (by first | assumption | omega)] | rw [if_neg (by first | assumption | omega)])
     rw [show (ptr17 (m.rest / 16777216)).2 = true from by assumption]
     simp [*]
    have e2 : (kind17 m).2 = true ∧ (kind17 m).1 = (4, 0, (ptr17 (m.rest / 16777216)).1) := by rw [e]; exact ⟨rfl, rfl⟩
    have b430 := bt hb6 hb13
    have b431 := bt b430 hb20
    have l432 := lq b430 ge18
    have b433 := b431.trans (hb25.mono l432)
    have b434 := bt b433 hb411
    have l435 := lq hb6 ge11
    have b436 := b434.trans (hb421.mono l435)
    exact bodyPost_ret (res_cell2 Try.results52 rfl (hg419.load (P := Try.prog) 46 Try.underlying46 rfl (by kernel_rfl)) rfl) rfl ⟨KindR.mk e2.1 (fun _ => e2.2), b436⟩
   refine te 6 (.bool false) hS413 rfl (by intro _ _; exact yqn) ?_
   simp only [lay]
   refine te 7 (.bool false) hS413 rfl (by intro _ _; exact xm) ?_
   simp only [lay]
   refine te 8 (.pointer (some ⟨g1, 1, none⟩)) hS413 rfl (by intro _ _; exact xf 1 0 Try.underlying46) ?_
   simp only [lay]
   refine te 9 (.int .u8 m.code) hS413 rfl (by intro _ h; exact xc Try.underlying5 ((hg3.to (b29.trans (Below.mono h l416))).cell 1 rfl)) ?_
   simp only [lay]
   by_cases q437 : m.code = 2
   case pos =>
    refine te 10 (.bool true) hS413 rfl (by intro _ _; exact yq) ?_
    simp only [lay]
    refine te 11 (.bool true) hS413 rfl (by intro _ _; exact xp (b := false)) ?_
    simp only [lay]
    refine te 12 (.bool true) hS413 rfl (by intro _ _; exact xp (b := true)) ?_
    simp only [lay]
    have l442 : W9.heap.size ≤ g15 := Nat.le_of_eq ge18.symm
    have b443 := hb20.trans (hb25.mono l442)
    have b444 := bt b443 hb411
    have has445 := hg10.to b444
    refine t1 13 rfl (ow_st 46 (.tmp 2) (.tmp 76) g8 #[.int .u8 4, .int .u8 0, .int .u32 ((ptr17 (m.rest / 16777216)).1), .slice none 0 0] _ _ rfl (by exact rfl) (by exact rfl) has445 (by kernel_rfl) rfl (by kernel_rfl) ?_)
    intro W438 hg439 bs440 hb441
    have has446 := hg23.to hb411
    have z447 := hb441.size
    have has448 := has446.but6 bs440 (by omega)
    refine ⟨(Below.trans hS413 hb441), ?_⟩
    have hS449 := (Below.trans hS413 hb441)
    simp only [lay]
    refine te 14 (.bool true) hS449 rfl (by intro _ _; exact xa) ?_
    simp only [lay]
    refine wpAnyH_done (by kernel_rfl) ?_ _
    change Code.wp _ _ _ _ _
    refine wp_ret ?_
    simp only [Exit.inBlock, Exit.then]
    have e : kind17 m = ((4, 0, (ptr17 (m.rest / 16777216)).1), true) := by
     unfold kind17
     repeat (first | rw [if_pos (by first | assumption | omega)] | rw [if_neg (by first | assumption | omega)])
     rw [show (ptr17 (m.rest / 16777216)).2 = true from by assumption]
     simp [*]
    have e2 : (kind17 m).2 = true ∧ (kind17 m).1 = (4, 0, (ptr17 (m.rest / 16777216)).1) := by rw [e]; exact ⟨rfl, rfl⟩
    have b450 := bt hb6 hb13
    have b451 := bt b450 hb20
    have l452 := lq b450 ge18
    have b453 := b451.trans (hb25.mono l452)
    have b454 := bt b453 hb411
    have l455 := lq hb6 ge11
    have b456 := b454.trans (hb441.mono l455)
    exact bodyPost_ret (res_cell2 Try.results52 rfl (hg439.load (P := Try.prog) 46 Try.underlying46 rfl (by kernel_rfl)) rfl) rfl ⟨KindR.mk e2.1 (fun _ => e2.2), b456⟩
   refine te 10 (.bool false) hS413 rfl (by intro _ _; exact yqn) ?_
   simp only [lay]
   refine te 11 (.bool false) hS413 rfl (by intro _ _; exact xp (b := false)) ?_
   simp only [lay]
   refine te 12 (.bool false) hS413 rfl (by intro _ _; exact xp (b := true)) ?_
   simp only [lay]
   have l461 : W9.heap.size ≤ g15 := Nat.le_of_eq ge18.symm
   have b462 := hb20.trans (hb25.mono l461)
   have b463 := bt b462 hb411
   have has464 := hg10.to b463
   refine t1 13 rfl (ow_st 46 (.tmp 2) (.tmp 76) g8 #[.int .u8 4, .int .u8 0, .int .u32 ((ptr17 (m.rest / 16777216)).1), .slice none 0 0] _ _ rfl (by exact rfl) (by exact rfl) has464 (by kernel_rfl) rfl (by kernel_rfl) ?_)
   intro W457 hg458 bs459 hb460
   have has465 := hg23.to hb411
   have z466 := hb460.size
   have has467 := has465.but6 bs459 (by omega)
   refine ⟨(Below.trans hS413 hb460), ?_⟩
   have hS468 := (Below.trans hS413 hb460)
   simp only [lay]
   refine te 14 (.bool false) hS468 rfl (by intro _ _; exact xa) ?_
   simp only [lay]
   refine wpAnyH_done (by kernel_rfl) ?_ _
   change Code.wp _ _ _ _ _
   refine wp_ret ?_
   simp only [Exit.inBlock, Exit.then]
   have e : (kind17 m).2 = false := by
    unfold kind17
    repeat (first | rw [if_pos (by first | assumption | omega)] | rw [if_neg (by first | assumption | omega)])
    try simp [*]
   have b469 := bt hb6 hb13
   have b470 := bt b469 hb20
   have l471 := lq b469 ge18
   have b472 := b470.trans (hb25.mono l471)
   have b473 := bt b472 hb411
   have l474 := lq hb6 ge11
   have b475 := b473.trans (hb460.mono l474)
   exact bodyPost_ret (res_cell2 Try.results52 rfl (hg458.load (P := Try.prog) 46 Try.underlying46 rfl (by kernel_rfl)) rfl) rfl ⟨KindR.mk e (fun h => by cases h), b475⟩
  replace q415 := eq_false_of_ne_true q415
  rw [q415]
  refine tn 4 hS413 rfl ?_
  simp only [lay]
  refine tn 5 hS413 rfl ?_
  simp only [lay]
  refine tn 6 hS413 rfl ?_
  simp only [lay]
  refine tn 7 hS413 rfl ?_
  simp only [lay]
  refine tn 8 hS413 rfl ?_
  simp only [lay]
  refine tn 9 hS413 rfl ?_
  simp only [lay]
  refine tn 10 hS413 rfl ?_
  simp only [lay]
  refine tn 11 hS413 rfl ?_
  simp only [lay]
  refine te 12 (.bool false) hS413 rfl (by intro _ _; exact xp (b := false)) ?_
  simp only [lay]
  have l480 : W9.heap.size ≤ g15 := Nat.le_of_eq ge18.symm
  have b481 := hb20.trans (hb25.mono l480)
  have b482 := bt b481 hb411
  have has483 := hg10.to b482
  refine t1 13 rfl (ow_st 46 (.tmp 2) (.tmp 76) g8 #[.int .u8 4, .int .u8 0, .int .u32 ((ptr17 (m.rest / 16777216)).1), .slice none 0 0] _ _ rfl (by exact rfl) (by exact rfl) has483 (by kernel_rfl) rfl (by kernel_rfl) ?_)
  intro W476 hg477 bs478 hb479
  have has484 := hg23.to hb411
  have z485 := hb479.size
  have has486 := has484.but6 bs478 (by omega)
  refine ⟨(Below.trans hS413 hb479), ?_⟩
  have hS487 := (Below.trans hS413 hb479)
  simp only [lay]
  refine te 14 (.bool false) hS487 rfl (by intro _ _; exact xa) ?_
  simp only [lay]
  refine wpAnyH_done (by kernel_rfl) ?_ _
  change Code.wp _ _ _ _ _
  refine wp_ret ?_
  simp only [Exit.inBlock, Exit.then]
  have e : (kind17 m).2 = false := by
   unfold kind17
   repeat (first | rw [if_pos (by first | assumption | omega)] | rw [if_neg (by first | assumption | omega)])
   try simp [*]
  have b488 := bt hb6 hb13
  have b489 := bt b488 hb20
  have l490 := lq b488 ge18
  have b491 := b489.trans (hb25.mono l490)
  have b492 := bt b491 hb411
  have l493 := lq hb6 ge11
  have b494 := b492.trans (hb479.mono l493)
  exact bodyPost_ret (res_cell2 Try.results52 rfl (hg477.load (P := Try.prog) 46 Try.underlying46 rfl (by kernel_rfl)) rfl) rfl ⟨KindR.mk e (fun h => by cases h), b494⟩
 refine lv (.bool false) (by exact yqn) ?_
 simp only [lay]
 refine lv (.bool false) (by exact xa) ?_
 simp only [lay]
 refine wn ?_
 refine cF9 ?_
 refine wp_skip ?_
 change Code.wp _ _ _ _ _
 refine wp_sr ?_
 refine lv (.agg #[.int .u8 0, .int .u8 0, .int .u32 0, .slice none 0 0]) (by exact xo (hg23.load (P := Try.prog) 46 Try.underlying46 rfl (by kernel_rfl))) ?_
 simp only [lay]
 have l499 : W9.heap.size ≤ g15 := Nat.le_of_eq ge18.symm
 have b500 := hb20.trans (hb25.mono l499)
 have has501 := hg10.to b500
 refine lz (ow_st 46 (.tmp 2) (.tmp 88) g8 #[.int .u8 0, .int .u8 0, .int .u32 0, .slice none 0 0] _ _ rfl (by exact rfl) (by exact rfl) has501 (by kernel_rfl) rfl (by kernel_rfl) ?_)
 intro W495 hg496 bs497 hb498
 have z502 := hb498.size
 have has503 := hg23.but6 bs497 (by omega)
 simp only [lay]
 refine lv (.bool false) (by exact xa) ?_
 simp only [lay]
 refine wn ?_
 refine wp_ret ?_
 try simp only [Exit.then]
 have e : (kind17 m).2 = false := by
  unfold kind17
  repeat (first | rw [if_pos (by first | assumption | omega)] | rw [if_neg (by first | assumption | omega)])
  try simp [*]
 have b504 := bt hb6 hb13
 have b505 := bt b504 hb20
 have l506 := lq b504 ge18
 have b507 := b505.trans (hb25.mono l506)
 have l508 := lq hb6 ge11
 have b509 := b507.trans (hb498.mono l508)
 exact bodyPost_ret (res_cell2 Try.results52 rfl (hg496.load (P := Try.prog) 46 Try.underlying46 rfl (by kernel_rfl)) rfl) rfl ⟨KindR.mk e (fun h => by cases h), b509⟩
set_option maxRecDepth 100000 in
set_option maxHeartbeats 8000000 in
theorem rInside17_any (A : Option Addr) (n c : Nat) (l s t : List Int) (hE : E6ok s t) (w : World) (y : By w.heap.size w A n c l) :
  Calls Try.prog 18 #[.slice A n c, .agg (ends6 s t)] w fun e w' => TwoR (inside17 l s t) w.heap.size w' e ∧ Below w.heap.size w w' := by
 obtain ⟨D, hD⟩ : ∃ D, got4 true l = D := ⟨_, rfl⟩
 obtain ⟨E, hEr⟩ : ∃ E, pe4 true l = E := ⟨_, rfl⟩
 have sL := hE.sL
 have tL := hE.tL
 go_enter Try.func18, Try.ntmps18
 refine wp_sr ?_
 refine lz (ow_box 31 (.tmp 1) _ rfl rfl ?_)
 intro g1 W2 hg3 ge4 sz5 hb6
 have z7 := hb6.size
 simp only [lay]
 refine lv (.slice none 0 0) (by exact xa) ?_
 simp only [lay]
 refine lv (.int .i64 0) (by exact xa) ?_
 simp only [lay]
 refine wn ?_
 refine wp_sr ?_
 refine lv (.slice A n c) (by exact xm) ?_
 simp only [lay]
 have by8 := y.to hb6
 refine lz (ow_call (fun v w' => (∃ p, v = .tuple #[.agg (D.cells p), .int .i64 (pat4 E), .int .i64 E] ∧ Own4 w' W2.heap.size D p) ∧ Below W2.heap.size W2 w') (by exact xk Try.func56) (by have := rpart_x by8; rw [hD, hEr] at this; exact this) ?_)
 rintro _ W9 ⟨⟨p11, rfl, ho12⟩, hb10⟩
 have z13 := hb10.size
 have hr14 := ho12.rd
 have hO15 := ho12.opt
 have hO16 := ho12.body
 simp only [lay]
 refine lv (.tuple #[.agg (D.cells p11), .int .i64 (pat4 E), .int .i64 E]) (by exact xm) ?_
 simp only [lay]
 refine lv (.agg (D.cells p11)) (by exact xe) ?_
 simp only [lay]
 refine lv (.int .i64 (pat4 E)) (by exact xe) ?_
 simp only [lay]
 refine lv (.int .i64 E) (by exact xe) ?_
 simp only [lay]
 refine lz (oa #[.int .u8 0, .int .u16 0, .bool false, .bool false, .int .i64 0, .int .u8 0, .int .u8 0, .int .u8 0, .int .u8 0, .int .u8 0, .int .u8 0, .int .u8 0, .int .u8 0, .int .u8 0, .int .u8 0, .slice none 0 0, .slice none 0 0] ?_)
 intro g17 W18 hg19 ge20 sz21 hb22
 have z23 := hb22.size
 simp only [lay]
 refine lz (ow_st 27 (.tmp 6) (.tmp 17) g17 (D.cells p11) _ _ rfl (by exact rfl) (by exact rfl) hg19 (by kernel_rfl) rfl (by kernel_rfl) ?_)
 intro W24 hg25 bs26 hb27
 have z28 := hb27.size
 simp only [lay]
 refine lv (.int .i64 (pat4 E)) (by exact xa) ?_
 simp only [lay]
 refine lv (.int .i64 E) (by exact xa) ?_
 simp only [lay]
 refine wn ?_
 refine wp_seq ?_
 refine wp_sr ?_
 by_cases q29 : E = 0
 case pos =>
  subst q29
  have hO : of4 l = D := by rw [← hD, got4, if_pos hEr]
  obtain ⟨hsd0, hsd1, hbl, hof, hol⟩ := said17_rng y.rng hEr
  rw [hO] at hbl hof hol
  obtain ⟨h20, -⟩ := pe4_zero hEr
  have yl := y.len
  have t2 := getD_byte y.rng 2
  have t3 := getD_byte y.rng 3
  obtain ⟨SD, hSD⟩ : ∃ SD, said17 l = SD := ⟨_, rfl⟩
  have hsd : l.getD 2 0 * 256 + l.getD 3 0 - 20 - (D.ol.length : Int) = SD := by rw [← hSD, said17, tot4, hO]
  rw [hSD] at hsd0 hsd1
  refine wpList_cut 32 (fun a W => ∃ (b61 : Bool) (x30 x31 x32 x33 x34 x35 x36 x37 x38 x39 x40 x41 x42 x43 x44 x45 x46 x47 x48 x49 x50 x51 x52 x53 x54 x55 x56 x57 x58 x59 x60 : Value), none17 l = b61 ∧ a = ⟨#[.slice A n c, .agg (ends6 s t), undef, .pointer (some ⟨g1, 0, none⟩), .slice none 0 0, .int .i64 0, .pointer (some ⟨g17, 0, none⟩), .int .i64 (pat4 0), .int .i64 0, undef, undef, undef, undef, undef, .tuple #[.agg (D.cells p11), .int .i64 (pat4 0), .int .i64 0], .slice A n c, .tuple #[.agg (D.cells p11), .int .i64 (pat4 0), .int .i64 0], .agg (D.cells p11), .int .i64 (pat4 0), .int .i64 0, x30, x31, x32, x33, x34, x35, x36, x37, x38, x39, x40, x41, x42, x43, x44, x45, x46, x47, x48, x49, x50, x51, x52, x53, x54, x55, x56, x57, x58, x59, x60, .bool b61, undef, undef, undef, undef, undef, undef, undef, undef, undef, undef, undef, undef, undef, undef, undef, undef, undef, undef, undef, undef, undef, undef, undef, undef, undef, undef, undef, undef, undef, undef, undef, undef, undef, undef, undef, undef, undef, undef, undef, undef, undef, undef, undef, undef, undef, undef, undef, undef, undef], []⟩ ∧ W24 = W) (fun hk62 => ?_) ?_
  case refine_1 =>
   refine lv (.int .i64 0) (by exact xm) ?_
   simp only [lay]
   refine lv (.bool false) (by exact neq_int_eq (by exact rfl) (by exact rfl) (by exact rfl) (by decide)) ?_
   simp only [lay]
   refine lv (.bool false) (by exact xm) ?_
   simp only [lay]
   refine lv (.pointer (some ⟨g17, 4, none⟩)) (by exact xf 4 0 Try.underlying27) ?_
   simp only [lay]
   refine lv (.int .i64 D.off) (by exact xc Try.underlying3 (hg25.cell 4 rfl)) ?_
   simp only [lay]
   by_cases q63 : D.off = 0
   case pos =>
    refine lv (.bool true) (by exact yq) ?_
    simp only [lay]
    refine lv (.bool true) (by exact xm) ?_
    simp only [lay]
    refine lv (.pointer (some ⟨g17, 6, none⟩)) (by exact xf 6 0 Try.underlying27) ?_
    simp only [lay]
    refine lv (.int .u8 D.proto) (by exact xc Try.underlying5 (hg25.cell 6 rfl)) ?_
    simp only [lay]
    by_cases q64 : D.proto = 1
    case pos =>
     refine lv (.bool true) (by exact yq) ?_
     simp only [lay]
     refine lv (.bool true) (by exact xp (b := true)) ?_
     simp only [lay]
     refine lv (.bool true) (by exact xm) ?_
     simp only [lay]
     refine lv (.pointer (some ⟨g17, 16, none⟩)) (by exact xf 16 0 Try.underlying27) ?_
     simp only [lay]
     refine lv (.slice p11.bA D.bl.length p11.bc) (by exact xc Try.underlying25 (hg25.cell 16 rfl)) ?_
     simp only [lay]
     refine lv (.int .i64 (D.bl.length : Int)) (by exact xz Try.underlying25) ?_
     simp only [lay]
     by_cases q65 : (D.bl.length : Int) > 0
     case pos =>
      refine lv (.bool true) (by exact ex_gtr (by exact rfl) (by exact rfl) (by exact rfl) (decide_eq_true (by first | assumption | omega | decide))) ?_
      simp only [lay]
      refine lv (.bool true) (by exact xp (b := true)) ?_
      simp only [lay]
      refine lv (.bool true) (by exact xm) ?_
      simp only [lay]
      refine lv (.pointer (some ⟨g17, 16, none⟩)) (by exact xf 16 0 Try.underlying27) ?_
      simp only [lay]
      refine lv (.slice p11.bA D.bl.length p11.bc) (by exact xc Try.underlying25 (hg25.cell 16 rfl)) ?_
      simp only [lay]
      have l66 : W9.heap.size ≤ g17 := Nat.le_of_eq ge20.symm
      have b67 := hb22.trans (hb27.mono l66)
      have own68 := hO16.to b67
      have y69 := (own_byS own68)
      obtain ⟨b70, o71, hA72⟩ := y69.form (k := 0) (by omega)
      refine lv (.pointer (some ⟨b70, o71 + 0, none⟩)) (by exact xi 0 Try.underlying25 hA72) ?_
      simp only [lay]
      refine lv (.int .u8 (D.bl.getD 0 0)) (by exact xc Try.underlying5 (y69.atE (k := 0) hA72 (by omega))) ?_
      simp only [lay]
      by_cases q73 : D.bl.getD 0 0 = 0
      case pos =>
       refine lv (.bool false) (by exact neq_int_eq (by exact rfl) (by exact rfl) (by exact rfl) (by first | assumption | omega)) ?_
       simp only [lay]
       refine lv (.bool false) (by exact xp (b := true)) ?_
       simp only [lay]
       refine lv (.bool false) (by exact xm) ?_
       simp only [lay]
       refine lzn ?_
       simp only [lay]
       refine lzn ?_
       simp only [lay]
       refine lzn ?_
       simp only [lay]
       refine lzn ?_
       simp only [lay]
       refine lzn ?_
       simp only [lay]
       refine lv (.bool false) (by exact xp (b := false)) ?_
       simp only [lay]
       refine lv (.bool false) (by exact xp (b := false)) ?_
       simp only [lay]
       exact hk62 _ _ ⟨false, _, _, _, _, _, _, _, _, _, _, _, _, _, _, _, _, _, _, _, _, _, _, _, _, _, _, _, _, _, _, _, (by cases hn : none17 l with | false => rfl | true => exfalso; have hx := none17_iff.1 hn; rw [hO, hEr] at hx; omega), rfl, rfl⟩
      refine lv (.bool true) (by exact neq_int_ne (by exact rfl) (by exact rfl) (by exact rfl) (by first | assumption | omega)) ?_
      simp only [lay]
      refine lv (.bool true) (by exact xp (b := true)) ?_
      simp only [lay]
      refine lv (.bool true) (by exact xm) ?_
      simp only [lay]
      refine lv (.pointer (some ⟨g17, 16, none⟩)) (by exact xf 16 0 Try.underlying27) ?_
      simp only [lay]
      refine lv (.slice p11.bA D.bl.length p11.bc) (by exact xc Try.underlying25 (hg25.cell 16 rfl)) ?_
      simp only [lay]
      have y74 := (own_byS own68)
      obtain ⟨b75, o76, hA77⟩ := y74.form (k := 0) (by omega)
      refine lv (.pointer (some ⟨b75, o76 + 0, none⟩)) (by exact xi 0 Try.underlying25 hA77) ?_
      simp only [lay]
      refine lv (.int .u8 (D.bl.getD 0 0)) (by exact xc Try.underlying5 (y74.atE (k := 0) hA77 (by omega))) ?_
      simp only [lay]
      by_cases q78 : D.bl.getD 0 0 = 8
      case pos =>
       refine lv (.bool false) (by exact neq_int_eq (by exact rfl) (by exact rfl) (by exact rfl) (by first | assumption | omega)) ?_
       simp only [lay]
       refine lv (.bool false) (by exact xp (b := true)) ?_
       simp only [lay]
       refine lv (.bool false) (by exact xp (b := false)) ?_
       simp only [lay]
       exact hk62 _ _ ⟨false, _, _, _, _, _, _, _, _, _, _, _, _, _, _, _, _, _, _, _, _, _, _, _, _, _, _, _, _, _, _, _, (by cases hn : none17 l with | false => rfl | true => exfalso; have hx := none17_iff.1 hn; rw [hO, hEr] at hx; omega), rfl, rfl⟩
      refine lv (.bool true) (by exact neq_int_ne (by exact rfl) (by exact rfl) (by exact rfl) (by first | assumption | omega)) ?_
      simp only [lay]
      refine lv (.bool true) (by exact xp (b := true)) ?_
      simp only [lay]
      refine lv (.bool true) (by exact xp (b := false)) ?_
      simp only [lay]
      exact hk62 _ _ ⟨true, _, _, _, _, _, _, _, _, _, _, _, _, _, _, _, _, _, _, _, _, _, _, _, _, _, _, _, _, _, _, _, none17_iff.2 (by rw [hO, hEr]; omega), rfl, rfl⟩
     refine lv (.bool false) (by exact ex_gtr (by exact rfl) (by exact rfl) (by exact rfl) (decide_eq_false (by first | assumption | omega | decide))) ?_
     simp only [lay]
     refine lv (.bool false) (by exact xp (b := true)) ?_
     simp only [lay]
     refine lv (.bool false) (by exact xm) ?_
     simp only [lay]
     refine lzn ?_
     simp only [lay]
     refine lzn ?_
     simp only [lay]
     refine lzn ?_
     simp only [lay]
     refine lzn ?_
     simp only [lay]
     refine lzn ?_
     simp only [lay]
     refine lv (.bool false) (by exact xp (b := false)) ?_
     simp only [lay]
     refine lv (.bool false) (by exact xm) ?_
     simp only [lay]
     refine lzn ?_
     simp only [lay]
     refine lzn ?_
     simp only [lay]
     refine lzn ?_
     simp only [lay]
     refine lzn ?_
     simp only [lay]
     refine lzn ?_
     simp only [lay]
     refine lv (.bool false) (by exact xp (b := false)) ?_
     simp only [lay]
     refine lv (.bool false) (by exact xp (b := false)) ?_
     simp only [lay]
     exact hk62 _ _ ⟨false, _, _, _, _, _, _, _, _, _, _, _, _, _, _, _, _, _, _, _, _, _, _, _, _, _, _, _, _, _, _, _, (by cases hn : none17 l with | false => rfl | true => exfalso; have hx := none17_iff.1 hn; rw [hO, hEr] at hx; omega), rfl, rfl⟩
    refine lv (.bool false) (by exact yqn) ?_
    simp only [lay]
    refine lv (.bool false) (by exact xp (b := true)) ?_
    simp only [lay]
    refine lv (.bool false) (by exact xm) ?_
    simp only [lay]
    refine lzn ?_
    simp only [lay]
    refine lzn ?_
    simp only [lay]
    refine lzn ?_
    simp only [lay]
    refine lzn ?_
    simp only [lay]
    refine lv (.bool false) (by exact xp (b := false)) ?_
    simp only [lay]
    refine lv (.bool false) (by exact xm) ?_
    simp only [lay]
    refine lzn ?_
    simp only [lay]
    refine lzn ?_
    simp only [lay]
    refine lzn ?_
    simp only [lay]
    refine lzn ?_
    simp only [lay]
    refine lzn ?_
    simp only [lay]
    refine lv (.bool false) (by exact xp (b := false)) ?_
    simp only [lay]
    refine lv (.bool false) (by exact xm) ?_
    simp only [lay]
    refine lzn ?_
    simp only [lay]
    refine lzn ?_
    simp only [lay]
    refine lzn ?_
    simp only [lay]
    refine lzn ?_
    simp only [lay]
    refine lzn ?_
    simp only [lay]
    refine lv (.bool false) (by exact xp (b := false)) ?_
    simp only [lay]
    refine lv (.bool false) (by exact xp (b := false)) ?_
    simp only [lay]
    exact hk62 _ _ ⟨false, _, _, _, _, _, _, _, _, _, _, _, _, _, _, _, _, _, _, _, _, _, _, _, _, _, _, _, _, _, _, _, (by cases hn : none17 l with | false => rfl | true => exfalso; have hx := none17_iff.1 hn; rw [hO, hEr] at hx; omega), rfl, rfl⟩
   refine lv (.bool false) (by exact yqn) ?_
   simp only [lay]
   refine lv (.bool false) (by exact xm) ?_
   simp only [lay]
   refine lzn ?_
   simp only [lay]
   refine lzn ?_
   simp only [lay]
   refine lzn ?_
   simp only [lay]
   refine lv (.bool false) (by exact xp (b := false)) ?_
   simp only [lay]
   refine lv (.bool false) (by exact xm) ?_
   simp only [lay]
   refine lzn ?_
   simp only [lay]
   refine lzn ?_
   simp only [lay]
   refine lzn ?_
   simp only [lay]
   refine lzn ?_
   simp only [lay]
   refine lv (.bool false) (by exact xp (b := false)) ?_
   simp only [lay]
   refine lv (.bool false) (by exact xm) ?_
   simp only [lay]
   refine lzn ?_
   simp only [lay]
   refine lzn ?_
   simp only [lay]
   refine lzn ?_
   simp only [lay]
   refine lzn ?_
   simp only [lay]
   refine lzn ?_
   simp only [lay]
   refine lv (.bool false) (by exact xp (b := false)) ?_
   simp only [lay]
   refine lv (.bool false) (by exact xm) ?_
   simp only [lay]
   refine lzn ?_
   simp only [lay]
   refine lzn ?_
   simp only [lay]
   refine lzn ?_
   simp only [lay]
   refine lzn ?_
   simp only [lay]
   refine lzn ?_
   simp only [lay]
   refine lv (.bool false) (by exact xp (b := false)) ?_
   simp only [lay]
   refine lv (.bool false) (by exact xp (b := false)) ?_
   simp only [lay]
   exact hk62 _ _ ⟨false, _, _, _, _, _, _, _, _, _, _, _, _, _, _, _, _, _, _, _, _, _, _, _, _, _, _, _, _, _, _, _, (by cases hn : none17 l with | false => rfl | true => exfalso; have hx := none17_iff.1 hn; rw [hO, hEr] at hx; omega), rfl, rfl⟩
  rintro _ _ ⟨b61, x30, x31, x32, x33, x34, x35, x36, x37, x38, x39, x40, x41, x42, x43, x44, x45, x46, x47, x48, x49, x50, x51, x52, x53, x54, x55, x56, x57, x58, x59, x60, hnn, rfl, rfl⟩
  simp only [List.drop_succ_cons, List.drop_zero]
  cases b61
  case false =>
   refine wn ?_
   refine cF9 ?_
   refine wp_skip ?_
   change Code.wp _ _ _ _ _
   refine wp_seq ?_
   refine wp_sr ?_
   refine lv (.pointer (some ⟨g17, 6, none⟩)) (by exact xf 6 0 Try.underlying27) ?_
   simp only [lay]
   refine lv (.int .u8 D.proto) (by exact xc Try.underlying5 (hg25.cell 6 rfl)) ?_
   simp only [lay]
   refine lz (ow_same (.bool (wrong17 D.proto)) (by exact xk Try.func45) (rwrong17_any D.proto W24) ?_)
   simp only [lay]
   refine wn ?_
   by_cases q79 : wrong17 D.proto = true
   case pos =>
    rw [q79]
    refine cT9 ?_
    refine wp_sr ?_
    refine lv (.slice none 0 0) (by exact xa) ?_
    simp only [lay]
    refine lv (.int .i64 171) (by exact xa) ?_
    simp only [lay]
    refine wn ?_
    refine wp_ret ?_
    try simp only [Exit.then]
    have e := inside17_wrong (s := s) (t := t) hnn (by rw [hO]; assumption)
    have b80 := bt hb6 hb10
    have b81 := bt b80 hb22
    have l82 := lq b80 ge20
    have b83 := b81.trans (hb27.mono l82)
    exact bodyPost_ret (res_tt Try.results18 rfl rfl) rfl ⟨TwoR.ok e (OwnB.nil _ _), b83⟩
   replace q79 := eq_false_of_ne_true q79
   rw [q79]
   have hck : (head17 D s t []).check = 0 := by rw [head17_check hof q79, if_neg (by simp only [List.length_nil]; split <;> omega)]
   have hwr : (head17 D s t []).write = (head17 D s t []).bytes := by rw [D6.write, if_pos hck]
   have hlen := head17_len ho12.ok hE
   refine cF9 ?_
   refine wp_skip ?_
   change Code.wp _ _ _ _ _
   refine wp_seq ?_
   refine rg_drawn W24.heap.size (by kernel_rfl) (Nat.le_refl _) ?_
   intro W84 hb85 hs86 hS87
   have z88 := hb85.size
   refine te 0 (.slice A n c) hS87 rfl (by intro _ _; exact xm) ?_
   simp only [lay]
   obtain ⟨b89, o90, hA91⟩ := y.form (k := 2) (by omega)
   refine te 1 (.pointer (some ⟨b89, o90 + 2, none⟩)) hS87 rfl (by intro _ _; exact xi 2 Try.underlying25 hA91) ?_
   simp only [lay]
   have b92 := bt hb6 hb10
   have b93 := bt b92 hb22
   have l94 := lq b92 ge20
   have b95 := b93.trans (hb27.mono l94)
   have by96 := y.to b95
   refine te 2 (.int .u8 (l.getD 2 0)) hS87 rfl (by intro _ h; exact xc Try.underlying5 ((by96.to h).atE (k := 2) hA91 (by omega))) ?_
   simp only [lay]
   refine te 3 (.int .i64 (l.getD 2 0)) hS87 rfl (by intro _ _; exact xv (conv_i64 5 3 .u8 (l.getD 2 0) (by kernel_rfl) Try.underlying3 (in_rng6 (getD_byte y.rng 2)) _)) ?_
   simp only [lay]
   refine te 4 (.int .i64 ((l.getD 2 0) * 256)) hS87 rfl (by intro _ _; exact xb (b_mul _ ((l.getD 2 0) * 256) rfl (by have := (getD_byte y.rng 2); omega) _)) ?_
   simp only [lay]
   refine te 5 (.slice A n c) hS87 rfl (by intro _ _; exact xm) ?_
   simp only [lay]
   refine te 6 (.pointer (some ⟨b89, o90 + 3, none⟩)) hS87 rfl (by intro _ _; exact xi 3 Try.underlying25 hA91) ?_
   simp only [lay]
   refine te 7 (.int .u8 (l.getD 3 0)) hS87 rfl (by intro _ h; exact xc Try.underlying5 ((by96.to h).atE (k := 3) hA91 (by omega))) ?_
   simp only [lay]
   refine te 8 (.int .i64 (l.getD 3 0)) hS87 rfl (by intro _ _; exact xv (conv_i64 5 3 .u8 (l.getD 3 0) (by kernel_rfl) Try.underlying3 (in_rng6 (getD_byte y.rng 3)) _)) ?_
   simp only [lay]
   refine te 9 (.int .i64 ((l.getD 2 0) * 256 + l.getD 3 0)) hS87 rfl (by intro _ _; exact xb (b_add _ ((l.getD 2 0) * 256 + l.getD 3 0) rfl (by have := (getD_byte y.rng 2); have := (getD_byte y.rng 3); omega) _)) ?_
   simp only [lay]
   refine te 10 (.int .i64 ((l.getD 2 0) * 256 + l.getD 3 0 - 20)) hS87 rfl (by intro _ _; exact xb (b_sub _ ((l.getD 2 0) * 256 + l.getD 3 0 - 20) rfl (by omega) _)) ?_
   simp only [lay]
   refine te 11 (.pointer (some ⟨g17, 15, none⟩)) hS87 rfl (by intro _ _; exact xf 15 0 Try.underlying27) ?_
   simp only [lay]
   refine te 12 (.slice p11.oA D.ol.length p11.oc) hS87 rfl (by intro _ h; exact xc Try.underlying25 ((hg25.to h).cell 15 rfl)) ?_
   simp only [lay]
   refine te 13 (.int .i64 (D.ol.length : Int)) hS87 rfl (by intro _ _; exact xz Try.underlying25) ?_
   simp only [lay]
   refine te 14 (.int .i64 SD) hS87 rfl (by intro _ _; exact xb (b_sub _ SD hsd (by omega) _)) ?_
   simp only [lay]
   refine te 15 (.int .i64 SD) hS87 rfl (by intro _ _; exact xa) ?_
   simp only [lay]
   refine wpAnyH_done (by kernel_rfl) ?_ _
   change Code.wp _ _ _ _ _
   refine wp_sr ?_
   have has97 := hg25.to hb85
   refine lv (.agg (D.cells p11)) (by exact xo (has97.load (P := Try.prog) 27 Try.underlying27 rfl (by kernel_rfl))) ?_
   simp only [lay]
   have b98 := bt hb10 hb22
   have l99 := lq hb10 ge20
   have b100 := b98.trans (hb27.mono l99)
   have b101 := bt b100 hb85
   have has102 := hg3.to b101
   refine lv (.agg (ends6 s t)) (by exact xo (has102.load (P := Try.prog) 31 Try.underlying31 rfl (by kernel_rfl))) ?_
   simp only [lay]
   refine lz (ow_call (fun v w' => v = .agg ((head17 D s t []).cells (pB6 none 0)) ∧ Below W84.heap.size W84 w') (by exact xk Try.func48) ((rheader_any D ho12.ok _ s t [] none 0 W84).mono fun e w' h => ⟨_, h.1, rfl, h.2⟩) ?_)
   rintro _ W103 ⟨rfl, hb104⟩
   have z105 := hb104.size
   simp only [lay]
   refine lz (oa #[.int .u8 0, .int .u32 0, .int .u8 0, .int .u8 0, .int .u8 0, .int .u8 0, .int .u8 0, .int .u8 0, .int .u8 0, .int .u8 0, .int .u8 0, .int .u8 0, .int .u8 0, .int .u8 0, .int .u8 0, .int .u8 0, .int .u8 0, .int .u8 0, .int .u8 0, .int .u8 0, .int .u8 0, .int .u8 0, .int .u8 0, .int .u8 0, .int .u8 0, .int .u8 0, .int .u8 0, .int .u8 0, .int .u8 0, .int .u8 0, .int .u8 0, .int .u8 0, .int .u8 0, .int .u8 0, .int .u8 0, .slice none 0 0, .bool false, .int .u32 0, .int .i64 0, .bool false, .int .u8 0, .slice none 0 0] ?_)
   intro g106 W107 hg108 ge109 sz110 hb111
   have z112 := hb111.size
   simp only [lay]
   refine lz (ow_st 36 (.tmp 10) (.tmp 72) g106 ((head17 D s t []).cells (pB6 none 0)) _ _ rfl (by exact rfl) (by exact rfl) hg108 (by kernel_rfl) rfl (by kernel_rfl) ?_)
   intro W113 hg114 bs115 hb116
   have z117 := hb116.size
   simp only [lay]
   refine wn ?_
   refine wp_sr ?_
   refine lv (.agg ((head17 D s t []).cells (pB6 none 0))) (by exact xo (hg114.load (P := Try.prog) 36 Try.underlying36 rfl (by kernel_rfl))) ?_
   simp only [lay]
   refine lz (ow_call (fun v w' => (∃ u, v = .tuple #[u, .int .i64 0] ∧ OwnB w' W113.heap.size u (head17 D s t []).bytes) ∧ Below W113.heap.size W113 w') (by exact xk Try.func57) (by have := rwrite6_x (w := W113) (head17_rd0 ho12.ok hE); rw [hck, hwr] at this; exact this) ?_)
   rintro _ W118 ⟨⟨u120, rfl, hO121⟩, hb119⟩
   have z122 := hb119.size
   obtain ⟨A123, c124, rfl, y125⟩ := hO121.by_
   simp only [lay]
   refine lv (.tuple #[.slice A123 (((head17 D s t []).bytes).length) c124, .int .i64 0]) (by exact xm) ?_
   simp only [lay]
   refine lv (.slice A123 (((head17 D s t []).bytes).length) c124) (by exact xe) ?_
   simp only [lay]
   refine lv (.int .i64 0) (by exact xe) ?_
   simp only [lay]
   refine lv (.slice A123 (((head17 D s t []).bytes).length) c124) (by exact xa) ?_
   simp only [lay]
   refine lv (.int .i64 0) (by exact xa) ?_
   simp only [lay]
   refine wn ?_
   refine wp_sr ?_
   refine lv (.int .i64 SD) (by exact xm) ?_
   simp only [lay]
   refine lv (.slice A123 (((head17 D s t []).bytes).length) c124) (by exact xm) ?_
   simp only [lay]
   refine lv (.int .i64 (((head17 D s t []).bytes).length : Int)) (by exact xz Try.underlying25) ?_
   simp only [lay]
   refine lv (.int .i64 (SD + (((head17 D s t []).bytes).length : Int))) (by exact xb (b_add _ (SD + (((head17 D s t []).bytes).length : Int)) rfl (by omega) _)) ?_
   simp only [lay]
   refine lv (.int .i64 (SD + (((head17 D s t []).bytes).length : Int) - 40)) (by exact xb (b_sub _ (SD + (((head17 D s t []).bytes).length : Int) - 40) rfl (by omega) _)) ?_
   simp only [lay]
   refine lv (.int .i64 (SD + (((head17 D s t []).bytes).length : Int) - 40)) (by exact xa) ?_
   simp only [lay]
   refine wn ?_
   refine wp_seq ?_
   refine wp_sr ?_
   refine lv (.int .i64 (SD + (((head17 D s t []).bytes).length : Int) - 40)) (by exact xm) ?_
   simp only [lay]
   by_cases q126 : SD + (((head17 D s t []).bytes).length : Int) - 40 > 65535
   case pos =>
    refine lv (.bool true) (by exact ex_gtr (by exact rfl) (by exact rfl) (by exact rfl) (decide_eq_true (by first | assumption | omega | decide))) ?_
    simp only [lay]
    refine wn ?_
    refine cT9 ?_
    refine wp_region_lit ?_
    refine lv (.int .i64 65535) (by exact xa) ?_
    simp only [lay]
    refine wn ?_
    refine wp_sr ?_
    refine lv (.slice A123 (((head17 D s t []).bytes).length) c124) (by exact xm) ?_
    simp only [lay]
    refine lv (.slice A123 (((head17 D s t []).bytes).length) c124) (by exact xm) ?_
    simp only [lay]
    refine lv (.int .i64 65535) (by exact xm) ?_
    simp only [lay]
    refine lv (.int .i64 (65535 / 256)) (by exact xb (b_quo _ (65535 / 256) rfl (by omega) (by decide) _)) ?_
    simp only [lay]
    refine lv (.int .u8 (65535 / 256)) (by exact xv (conv_u8' 3 5 .i64 (65535 / 256) (by kernel_rfl) Try.underlying5 (by omega) _)) ?_
    simp only [lay]
    refine lv (.int .i64 65535) (by exact xm) ?_
    simp only [lay]
    refine lv (.int .i64 (65535 % 256)) (by exact xb (b_rem _ (65535 % 256) rfl (by omega) (by decide) _)) ?_
    simp only [lay]
    refine lv (.int .u8 (65535 % 256)) (by exact xv (conv_u8' 3 5 .i64 (65535 % 256) (by kernel_rfl) Try.underlying5 (by omega) _)) ?_
    simp only [lay]
    obtain ⟨g127, rfl, h128, h129⟩ := own_form hO121 (by first | omega | simp [D4.src])
    refine lv (.pointer (some ⟨g127, 0 + 4, none⟩)) (by exact ex_index (k := 4) (by exact rfl) Try.underlying25 (by kernel_rfl) (by exact rfl) (by exact rfl) (show 4 < ((head17 D s t []).bytes).length by omega)) ?_
    simp only [lay]
    refine lz (ow_stB 5 (.tmp 93) (.tmp 89) g127 _ W113.heap.size (((head17 D s t []).bytes).length) c124 (65535 / 256) _ rfl (by exact rfl) (by exact rfl) (by kernel_rfl) hO121 (by omega) (own_len hO121) (by omega) ?_)
    intro W130 hO131 bs132 hb133
    have z134 := hb133.size
    simp only [lay]
    refine lv (.pointer (some ⟨g127, 0 + 5, none⟩)) (by exact ex_index (k := 5) (by exact rfl) Try.underlying25 (by kernel_rfl) (by exact rfl) (by exact rfl) (show 5 < ((head17 D s t []).bytes).length by omega)) ?_
    simp only [lay]
    refine lz (ow_stB 5 (.tmp 94) (.tmp 92) g127 _ W113.heap.size (((head17 D s t []).bytes).length) c124 (65535 % 256) _ rfl (by exact rfl) (by exact rfl) (by kernel_rfl) hO131 (by omega) (own_len hO131) (by omega) ?_)
    intro W135 hO136 bs137 hb138
    have z139 := hb138.size
    simp only [lay]
    refine wn ?_
    refine wp_sr ?_
    refine lv (.slice (some ⟨g127, 0, none⟩) (((head17 D s t []).bytes).length) c124) (by exact xm) ?_
    simp only [lay]
    have b140 := bt hb85 hb104
    have b141 := bt b140 hb111
    have l142 := lq b140 ge109
    have b143 := b141.trans (hb116.mono l142)
    have b144 := bt b143 hb119
    have l145 := Nat.le_trans b143.size h128
    have b146 := b144.trans (hb133.mono l145)
    have b147 := b146.trans (hb138.mono l145)
    have has148 := hg25.to b147
    refine lv (.agg (D.cells p11)) (by exact xo (has148.load (P := Try.prog) 27 Try.underlying27 rfl (by kernel_rfl))) ?_
    simp only [lay]
    have b149 := bt b101 hb104
    have b150 := bt b149 hb111
    have l151 := lq b149 ge109
    have b152 := b150.trans (hb116.mono l151)
    have b153 := bt b152 hb119
    have l154 := Nat.le_trans b152.size h128
    have b155 := b153.trans (hb133.mono l154)
    have b156 := b155.trans (hb138.mono l154)
    have has157 := hg3.to b156
    refine lv (.agg (ends6 s t)) (by exact xo (has157.load (P := Try.prog) 31 Try.underlying31 rfl (by kernel_rfl))) ?_
    simp only [lay]
    refine lv (.int .i64 SD) (by exact xm) ?_
    simp only [lay]
    have l158 : W9.heap.size ≤ g17 := Nat.le_of_eq ge20.symm
    have b159 := hb22.trans (hb27.mono l158)
    have b160 := bt b159 hb85
    have b161 := bt b160 hb104
    have b162 := bt b161 hb111
    have l163 := lq b161 ge109
    have b164 := b162.trans (hb116.mono l163)
    have b165 := bt b164 hb119
    have l166 := Nat.le_trans b164.size h128
    have b167 := b165.trans (hb133.mono l166)
    have b168 := b167.trans (hb138.mono l166)
    have rd169 := hr14.to b168
    refine lz (ow_call (fun v w' => OwnB w' W135.heap.size v (told17 D s t SD) ∧ Below W135.heap.size W135 w') (by exact xk Try.func58) (rinside17_any _ _ _ _ hE SD (by omega) W135 rd169 hbl) ?_)
    rintro v172 W170 ⟨hO173, hb171⟩
    have z174 := hb171.size
    obtain ⟨A175, c176, rfl, y177⟩ := hO173.by_
    simp only [lay]
    have own183 := hO136.to hb171
    have b184 := hb119.trans (hb133.mono h128)
    have b185 := b184.trans (hb138.mono h128)
    have b186 := bt b185 hb171
    refine lz (ow_app (.tmp 95) (.tmp 99) 25 rfl Try.underlying25 info8 _ _ ((((head17 D s t []).bytes).set (0 + 4) (65535 / 256)).set (0 + 5) (65535 % 256)) rfl own183 _ _ _ _ (told17 D s t SD) rfl (own_byS hO173) (by simp only [List.length_set]; have := told17_len D s t SD; omega) b186.size ?_)
    intro v182 W178 hO179 hb180 hgr181
    have z187 := hb180.size
    obtain ⟨A188, c189, rfl, y190⟩ := hO179.by_
    simp only [lay]
    refine lv (.slice A188 (((((head17 D s t []).bytes).set (0 + 4) (65535 / 256)).set (0 + 5) (65535 % 256) ++ (told17 D s t SD)).length) c189) (by exact xa) ?_
    simp only [lay]
    refine lv (.int .i64 0) (by exact xa) ?_
    simp only [lay]
    refine wn ?_
    refine wp_ret ?_
    try simp only [Exit.then]
    have hNN : min (SD + ((head17 D s t []).bytes.length - 40)) 65535 = 65535 := by omega
    have e : inside17 l s t = ((((head17 D s t []).bytes).set (0 + 4) (65535 / 256)).set (0 + 5) (65535 % 256) ++ (told17 D s t SD), 0) := by
     rw [inside17_ok hO hnn (by assumption), hSD, hNN]
     rfl
    have b191 := bt b95 hb85
    have b192 := bt b191 hb104
    have b193 := bt b192 hb111
    have l194 := lq b192 ge109
    have b195 := b193.trans (hb116.mono l194)
    have b196 := bt b195 hb119
    have l197 := Nat.le_trans b195.size h128
    have b198 := b196.trans (hb133.mono l197)
    have b199 := b198.trans (hb138.mono l197)
    have b200 := bt b199 hb171
    have l201 := Nat.le_trans b195.size (Nat.le_refl _)
    have b202 := b200.trans (hb180.mono l201)
    exact bodyPost_ret (res_tt Try.results18 rfl rfl) rfl ⟨TwoR.ok e (hO179.more b195.size), b202⟩
   refine lv (.bool false) (by exact ex_gtr (by exact rfl) (by exact rfl) (by exact rfl) (decide_eq_false (by first | assumption | omega | decide))) ?_
   simp only [lay]
   refine wn ?_
   refine cF9 ?_
   refine wp_skip ?_
   change Code.wp _ _ _ _ _
   refine wp_sr ?_
   refine lv (.slice A123 (((head17 D s t []).bytes).length) c124) (by exact xm) ?_
   simp only [lay]
   refine lv (.slice A123 (((head17 D s t []).bytes).length) c124) (by exact xm) ?_
   simp only [lay]
   refine lv (.int .i64 (SD + (((head17 D s t []).bytes).length : Int) - 40)) (by exact xm) ?_
   simp only [lay]
   refine lv (.int .i64 ((SD + (((head17 D s t []).bytes).length : Int) - 40) / 256)) (by exact xb (b_quo _ ((SD + (((head17 D s t []).bytes).length : Int) - 40) / 256) rfl (by omega) (by decide) _)) ?_
   simp only [lay]
   refine lv (.int .u8 ((SD + (((head17 D s t []).bytes).length : Int) - 40) / 256)) (by exact xv (conv_u8' 3 5 .i64 ((SD + (((head17 D s t []).bytes).length : Int) - 40) / 256) (by kernel_rfl) Try.underlying5 (by omega) _)) ?_
   simp only [lay]
   refine lv (.int .i64 (SD + (((head17 D s t []).bytes).length : Int) - 40)) (by exact xm) ?_
   simp only [lay]
   refine lv (.int .i64 ((SD + (((head17 D s t []).bytes).length : Int) - 40) % 256)) (by exact xb (b_rem _ ((SD + (((head17 D s t []).bytes).length : Int) - 40) % 256) rfl (by omega) (by decide) _)) ?_
   simp only [lay]
   refine lv (.int .u8 ((SD + (((head17 D s t []).bytes).length : Int) - 40) % 256)) (by exact xv (conv_u8' 3 5 .i64 ((SD + (((head17 D s t []).bytes).length : Int) - 40) % 256) (by kernel_rfl) Try.underlying5 (by omega) _)) ?_
   simp only [lay]
   obtain ⟨g203, rfl, h204, h205⟩ := own_form hO121 (by first | omega | simp [D4.src])
   refine lv (.pointer (some ⟨g203, 0 + 4, none⟩)) (by exact ex_index (k := 4) (by exact rfl) Try.underlying25 (by kernel_rfl) (by exact rfl) (by exact rfl) (show 4 < ((head17 D s t []).bytes).length by omega)) ?_
   simp only [lay]
   refine lz (ow_stB 5 (.tmp 93) (.tmp 89) g203 _ W113.heap.size (((head17 D s t []).bytes).length) c124 ((SD + (((head17 D s t []).bytes).length : Int) - 40) / 256) _ rfl (by exact rfl) (by exact rfl) (by kernel_rfl) hO121 (by omega) (own_len hO121) (by omega) ?_)
   intro W206 hO207 bs208 hb209
   have z210 := hb209.size
   simp only [lay]
   refine lv (.pointer (some ⟨g203, 0 + 5, none⟩)) (by exact ex_index (k := 5) (by exact rfl) Try.underlying25 (by kernel_rfl) (by exact rfl) (by exact rfl) (show 5 < ((head17 D s t []).bytes).length by omega)) ?_
   simp only [lay]
   refine lz (ow_stB 5 (.tmp 94) (.tmp 92) g203 _ W113.heap.size (((head17 D s t []).bytes).length) c124 ((SD + (((head17 D s t []).bytes).length : Int) - 40) % 256) _ rfl (by exact rfl) (by exact rfl) (by kernel_rfl) hO207 (by omega) (own_len hO207) (by omega) ?_)
   intro W211 hO212 bs213 hb214
   have z215 := hb214.size
   simp only [lay]
   refine wn ?_
   refine wp_sr ?_
   refine lv (.slice (some ⟨g203, 0, none⟩) (((head17 D s t []).bytes).length) c124) (by exact xm) ?_
   simp only [lay]
   have b216 := bt hb85 hb104
   have b217 := bt b216 hb111
   have l218 := lq b216 ge109
   have b219 := b217.trans (hb116.mono l218)
   have b220 := bt b219 hb119
   have l221 := Nat.le_trans b219.size h204
   have b222 := b220.trans (hb209.mono l221)
   have b223 := b222.trans (hb214.mono l221)
   have has224 := hg25.to b223
   refine lv (.agg (D.cells p11)) (by exact xo (has224.load (P := Try.prog) 27 Try.underlying27 rfl (by kernel_rfl))) ?_
   simp only [lay]
   have b225 := bt b101 hb104
   have b226 := bt b225 hb111
   have l227 := lq b225 ge109
   have b228 := b226.trans (hb116.mono l227)
   have b229 := bt b228 hb119
   have l230 := Nat.le_trans b228.size h204
   have b231 := b229.trans (hb209.mono l230)
   have b232 := b231.trans (hb214.mono l230)
   have has233 := hg3.to b232
   refine lv (.agg (ends6 s t)) (by exact xo (has233.load (P := Try.prog) 31 Try.underlying31 rfl (by kernel_rfl))) ?_
   simp only [lay]
   refine lv (.int .i64 SD) (by exact xm) ?_
   simp only [lay]
   have l234 : W9.heap.size ≤ g17 := Nat.le_of_eq ge20.symm
   have b235 := hb22.trans (hb27.mono l234)
   have b236 := bt b235 hb85
   have b237 := bt b236 hb104
   have b238 := bt b237 hb111
   have l239 := lq b237 ge109
   have b240 := b238.trans (hb116.mono l239)
   have b241 := bt b240 hb119
   have l242 := Nat.le_trans b240.size h204
   have b243 := b241.trans (hb209.mono l242)
   have b244 := b243.trans (hb214.mono l242)
   have rd245 := hr14.to b244
   refine lz (ow_call (fun v w' => OwnB w' W211.heap.size v (told17 D s t SD) ∧ Below W211.heap.size W211 w') (by exact xk Try.func58) (rinside17_any _ _ _ _ hE SD (by omega) W211 rd245 hbl) ?_)
   rintro v248 W246 ⟨hO249, hb247⟩
   have z250 := hb247.size
   obtain ⟨A251, c252, rfl, y253⟩ := hO249.by_
   simp only [lay]
   have own259 := hO212.to hb247
   have b260 := hb119.trans (hb209.mono h204)
   have b261 := b260.trans (hb214.mono h204)
   have b262 := bt b261 hb247
   refine lz (ow_app (.tmp 95) (.tmp 99) 25 rfl Try.underlying25 info8 _ _ ((((head17 D s t []).bytes).set (0 + 4) ((SD + (((head17 D s t []).bytes).length : Int) - 40) / 256)).set (0 + 5) ((SD + (((head17 D s t []).bytes).length : Int) - 40) % 256)) rfl own259 _ _ _ _ (told17 D s t SD) rfl (own_byS hO249) (by simp only [List.length_set]; have := told17_len D s t SD; omega) b262.size ?_)
   intro v258 W254 hO255 hb256 hgr257
   have z263 := hb256.size
   obtain ⟨A264, c265, rfl, y266⟩ := hO255.by_
   simp only [lay]
   refine lv (.slice A264 (((((head17 D s t []).bytes).set (0 + 4) ((SD + (((head17 D s t []).bytes).length : Int) - 40) / 256)).set (0 + 5) ((SD + (((head17 D s t []).bytes).length : Int) - 40) % 256) ++ (told17 D s t SD)).length) c265) (by exact xa) ?_
   simp only [lay]
   refine lv (.int .i64 0) (by exact xa) ?_
   simp only [lay]
   refine wn ?_
   refine wp_ret ?_
   try simp only [Exit.then]
   have hNN : min (SD + ((head17 D s t []).bytes.length - 40)) 65535 = SD + ((head17 D s t []).bytes.length : Int) - 40 := by omega
   have e : inside17 l s t = ((((head17 D s t []).bytes).set (0 + 4) ((SD + (((head17 D s t []).bytes).length : Int) - 40) / 256)).set (0 + 5) ((SD + (((head17 D s t []).bytes).length : Int) - 40) % 256) ++ (told17 D s t SD), 0) := by
    rw [inside17_ok hO hnn (by assumption), hSD, hNN]
    rfl
   have b267 := bt b95 hb85
   have b268 := bt b267 hb104
   have b269 := bt b268 hb111
   have l270 := lq b268 ge109
   have b271 := b269.trans (hb116.mono l270)
   have b272 := bt b271 hb119
   have l273 := Nat.le_trans b271.size h204
   have b274 := b272.trans (hb209.mono l273)
   have b275 := b274.trans (hb214.mono l273)
   have b276 := bt b275 hb247
   have l277 := Nat.le_trans b271.size (Nat.le_refl _)
   have b278 := b276.trans (hb256.mono l277)
   exact bodyPost_ret (res_tt Try.results18 rfl rfl) rfl ⟨TwoR.ok e (hO255.more b271.size), b278⟩
  refine wn ?_
  refine cT9 ?_
  refine wp_sr ?_
  refine lv (.slice none 0 0) (by exact xa) ?_
  simp only [lay]
  refine lv (.int .i64 176) (by exact xa) ?_
  simp only [lay]
  refine wn ?_
  refine wp_ret ?_
  try simp only [Exit.then]
  have e := inside17_none (s := s) (t := t) (l := l) hnn
  have b279 := bt hb6 hb10
  have b280 := bt b279 hb22
  have l281 := lq b279 ge20
  have b282 := b280.trans (hb27.mono l281)
  exact bodyPost_ret (res_tt Try.results18 rfl rfl) rfl ⟨TwoR.ok e (OwnB.nil _ _), b282⟩
 refine lv (.int .i64 E) (by exact xm) ?_
 simp only [lay]
 refine lv (.bool true) (by exact neq_int_ne (by exact rfl) (by exact rfl) (by exact rfl) (by first | assumption | omega)) ?_
 simp only [lay]
 refine lv (.bool true) (by exact xm) ?_
 simp only [lay]
 refine lzn ?_
 simp only [lay]
 refine lzn ?_
 simp only [lay]
 refine lzn ?_
 simp only [lay]
 refine lzn ?_
 simp only [lay]
 refine lzn ?_
 simp only [lay]
 refine lzn ?_
 simp only [lay]
 refine lzn ?_
 simp only [lay]
 refine lzn ?_
 simp only [lay]
 refine lzn ?_
 simp only [lay]
 refine lzn ?_
 simp only [lay]
 refine lzn ?_
 simp only [lay]
 refine lzn ?_
 simp only [lay]
 refine lzn ?_
 simp only [lay]
 refine lzn ?_
 simp only [lay]
 refine lzn ?_
 simp only [lay]
 refine lzn ?_
 simp only [lay]
 refine lzn ?_
 simp only [lay]
 refine lzn ?_
 simp only [lay]
 refine lzn ?_
 simp only [lay]
 refine lzn ?_
 simp only [lay]
 refine lzn ?_
 simp only [lay]
 refine lzn ?_
 simp only [lay]
 refine lzn ?_
 simp only [lay]
 refine lzn ?_
 simp only [lay]
 refine lzn ?_
 simp only [lay]
 refine lzn ?_
 simp only [lay]
 refine lzn ?_
 simp only [lay]
 refine lzn ?_
 simp only [lay]
 refine lv (.bool true) (by exact xp (b := true)) ?_
 simp only [lay]
 refine wn ?_
 refine cT9 ?_
 refine wp_sr ?_
 refine lv (.slice none 0 0) (by exact xa) ?_
 simp only [lay]
 refine lv (.int .i64 176) (by exact xa) ?_
 simp only [lay]
 refine wn ?_
 refine wp_ret ?_
 try simp only [Exit.then]
 have e := inside17_none (s := s) (t := t) (l := l) (none17_iff.2 (by rw [hEr]; omega))
 have b284 := bt hb6 hb10
 have b285 := bt b284 hb22
 have l286 := lq b284 ge20
 have b287 := b285.trans (hb27.mono l286)
 exact bodyPost_ret (res_tt Try.results18 rfl rfl) rfl ⟨TwoR.ok e (OwnB.nil _ _), b287⟩
end Go.Proofs.Ytijnifbpbgckgaa
