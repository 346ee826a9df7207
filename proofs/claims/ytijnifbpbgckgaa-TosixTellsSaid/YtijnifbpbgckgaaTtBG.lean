/-
  Lemmas and walks for the row of TosixTells (part 33 of 39).
-/
import Derived.Test.YtijnifbpbgckgaaTtAF
import Derived.Test.YtijnifbpbgckgaaTtBF
set_option linter.unusedVariables false
set_option linter.unusedSimpArgs false
namespace Go.Proofs.Ytijnifbpbgckgaa
open Go.RowKit Go.Shelf
attribute [local irreducible] wpList Code.wp Oper.wp wpOp wpAnyH

/-- the cells of an api.Ends4 -/
def ends4 (s t : List Int) : Array Value := #[.int .u8 (s.getD 0 0), .int .u8 (s.getD 1 0), .int .u8 (s.getD 2 0), .int .u8 (s.getD 3 0), .int .u8 (t.getD 0 0), .int .u8 (t.getD 1 0), .int .u8 (t.getD 2 0), .int .u8 (t.getD 3 0)]

set_option maxRecDepth 100000 in
set_option maxHeartbeats 8000000 in
theorem tells17_any (d : D4) (p : W4) (w : World) (hR : Rd4 w.heap.size w d p) :
  Calls Try.prog 26 #[.agg (d.cells p)] w fun e w' => e = .returned (.tuple #[.agg (ends4 (tells17 d).1.1 (tells17 d).1.2), .bool (tells17 d).2.1, .int .i64 (tells17 d).2.2]) ∧ Below w.heap.size w w' := by
 obtain ⟨M, hM⟩ : ∃ x, parse7 d.bl [] = x := ⟨_, rfl⟩
 obtain ⟨PE, hPE⟩ : ∃ x, perr7 d.bl [] = x := ⟨_, rfl⟩
 obtain ⟨D, hD⟩ : ∃ x, got4 true M.bl = x := ⟨_, rfl⟩
 obtain ⟨E, hEr⟩ : ∃ x, pe4 true M.bl = x := ⟨_, rfl⟩
 have yo := hR.opt
 have yb := hR.body
 go_enter Try.func26, Try.ntmps26
 refine wp_sr ?_
 refine lz (ow_box 27 (.tmp 0) _ rfl rfl ?_)
 intro g1 W2 hg3 ge4 sz5 hb6
 have z7 := hb6.size
 simp only [lay]
 refine lz (oa #[.int .u8 0, .int .u8 0, .int .u8 0, .int .u8 0, .int .u8 0, .int .u8 0, .int .u8 0, .int .u8 0] ?_)
 intro g8 W9 hg10 ge11 sz12 hb13
 have z14 := hb13.size
 simp only [lay]
 refine lv (.bool false) (by exact xa) ?_
 simp only [lay]
 refine lv (.int .i64 0) (by exact xa) ?_
 simp only [lay]
 refine wn ?_
 refine wp_seq ?_
 refine wp_sr ?_
 have has15 := hg3.to hb13
 refine lv (.agg (d.cells p)) (by exact xo (has15.load (P := Try.prog) 27 Try.underlying27 rfl (by kernel_rfl))) ?_
 simp only [lay]
 have b16 := bt hb6 hb13
 have rd17 := hR.to b16
 refine lz (ow_call (fun v w' => v = .int .i64 d.check ∧ Below W9.heap.size W9 w') (by exact xk Try.func34) (check_x rd17) ?_)
 rintro _ W18 ⟨rfl, hb19⟩
 have z20 := hb19.size
 simp only [lay]
 refine lv (.int .i64 d.check) (by exact xa) ?_
 simp only [lay]
 refine wn ?_
 refine wp_sr ?_
 refine lv (.int .i64 d.check) (by exact xm) ?_
 simp only [lay]
 by_cases q21 : d.check = 0
 case pos =>
  obtain ⟨hof, hol, -, hbl⟩ := D4.ok_of_check q21
  refine lv (.bool false) (by exact neq_int_eq (by exact rfl) (by exact rfl) (by exact rfl) (by first | assumption | omega)) ?_
  simp only [lay]
  refine wn ?_
  refine wp_cond_false (by exact rfl) ?_
  refine wp_skip ?_
  change Code.wp _ _ _ _ _
  refine wp_seq ?_
  refine wp_sr ?_
  have b22 := bt hb13 hb19
  have has23 := hg3.to b22
  refine lv (.agg (d.cells p)) (by exact xo (has23.load (P := Try.prog) 27 Try.underlying27 rfl (by kernel_rfl))) ?_
  simp only [lay]
  refine lz (ow_call (fun v w' => v = .bool d.part ∧ Below W18.heap.size W18 w') (by exact xk Try.func39) (by exact (fragment_any d p W18).mono fun e w' h => ⟨_, h.1, rfl, h.2⟩) ?_)
  rintro _ W24 ⟨rfl, hb25⟩
  have z26 := hb25.size
  simp only [lay]
  refine lv (.bool d.part) (by exact xm) ?_
  simp only [lay]
  by_cases q27 : d.part = true
  case pos =>
   rw [q27]
   refine lzn ?_
   simp only [lay]
   refine lzn ?_
   simp only [lay]
   refine lzn ?_
   simp only [lay]
   refine lv (.bool true) (by exact xp (b := true)) ?_
   simp only [lay]
   refine wn ?_
   refine wp_cond_true (by exact rfl) ?_
   refine wp_sr ?_
   refine lv (.agg #[.int .u8 0, .int .u8 0, .int .u8 0, .int .u8 0, .int .u8 0, .int .u8 0, .int .u8 0, .int .u8 0]) (by kernel_rfl) ?_
   simp only [lay]
   have b32 := bt hb19 hb25
   have has33 := hg10.to b32
   refine lz (ow_st 68 (.tmp 2) (.tmp 23) g8 #[.int .u8 0, .int .u8 0, .int .u8 0, .int .u8 0, .int .u8 0, .int .u8 0, .int .u8 0, .int .u8 0] _ _ rfl (by exact rfl) (by exact rfl) has33 (by kernel_rfl) rfl (by kernel_rfl) ?_)
   intro W28 hg29 bs30 hb31
   have z34 := hb31.size
   simp only [lay]
   refine lv (.bool false) (by exact xa) ?_
   simp only [lay]
   refine lv (.int .i64 0) (by exact xa) ?_
   simp only [lay]
   refine wn ?_
   refine wp_ret ?_
   try simp only [Exit.then]
   have e : tells17 d = (([0, 0, 0, 0], [0, 0, 0, 0]), false, 0) := by
    unfold tells17
    simp only [hM, hPE, hEr]
    simp only [show d.part = true from by assumption, true_or, if_true]
    repeat (first | rw [if_pos (by first | assumption | omega | exact ne_true_of_eq_false (by assumption))] | rw [if_neg (by first | assumption | omega | exact ne_true_of_eq_false (by assumption))])
   have b35 := bt b16 hb19
   have b36 := bt b35 hb25
   have l37 := lq hb6 ge11
   have b38 := b36.trans (hb31.mono l37)
   exact bodyPost_ret (res_cell3 Try.results26 rfl (hg29.load (P := Try.prog) 68 Try.underlying68 rfl (by kernel_rfl)) rfl rfl) rfl ⟨by rw [e]; rfl, b38⟩
  replace q27 := eq_false_of_ne_true q27
  rw [q27]
  refine lv (.pointer (some ⟨g1, 6, none⟩)) (by exact xf 6 0 Try.underlying27) ?_
  simp only [lay]
  have b39 := bt b22 hb25
  have has40 := hg3.to b39
  refine lv (.int .u8 d.proto) (by exact xc Try.underlying5 (has40.cell 6 rfl)) ?_
  simp only [lay]
  by_cases q41 : d.proto = 1
  case pos =>
   refine lv (.bool false) (by exact neq_int_eq (by exact rfl) (by exact rfl) (by exact rfl) (by first | assumption | omega)) ?_
   simp only [lay]
   refine lv (.bool false) (by exact xp (b := false)) ?_
   simp only [lay]
   refine wn ?_
   refine wp_cond_false (by exact rfl) ?_
   refine wp_skip ?_
   change Code.wp _ _ _ _ _
   refine wp_sr ?_
   refine lv (.pointer (some ⟨g1, 16, none⟩)) (by exact xf 16 0 Try.underlying27) ?_
   simp only [lay]
   refine lv (.slice p.bA d.bl.length p.bc) (by exact xc Try.underlying25 (has40.cell 16 rfl)) ?_
   simp only [lay]
   have b42 := bt b16 hb19
   have b43 := bt b42 hb25
   have by44 := yb.to b43
   refine lz (ow_call (fun v w' => (∃ A' c', v = .tuple #[.agg (M.cells A' c'), .int .i64 PE] ∧ M.ok ∧ OwnB w' W24.heap.size (.slice A' M.bl.length c') M.bl) ∧ Below W24.heap.size W24 w') (by exact xk Try.func40) (by have := iparse4_x by44; rw [hM, hPE] at this; exact this) ?_)
   rintro _ W45 ⟨⟨A47, c48, rfl, hk49, hO50⟩, hb46⟩
   have z51 := hb46.size
   simp only [lay]
   refine lv (.tuple #[.agg (M.cells A47 c48), .int .i64 PE]) (by exact xm) ?_
   simp only [lay]
   refine lv (.agg (M.cells A47 c48)) (by exact xe) ?_
   simp only [lay]
   refine lv (.int .i64 PE) (by exact xe) ?_
   simp only [lay]
   refine lz (oa #[.int .u8 0, .int .u8 0, .int .u32 0, .slice none 0 0] ?_)
   intro g52 W53 hg54 ge55 sz56 hb57
   have z58 := hb57.size
   simp only [lay]
   refine lz (ow_st 46 (.tmp 6) (.tmp 28) g52 (M.cells A47 c48) _ _ rfl (by exact rfl) (by exact rfl) hg54 (by kernel_rfl) rfl (by kernel_rfl) ?_)
   intro W59 hg60 bs61 hb62
   have z63 := hb62.size
   simp only [lay]
   refine lv (.int .i64 PE) (by exact xa) ?_
   simp only [lay]
   refine wn ?_
   refine wp_seq ?_
   refine wp_sr ?_
   refine lv (.int .i64 PE) (by exact xm) ?_
   simp only [lay]
   by_cases q64 : PE = 0
   case pos =>
    refine lv (.bool false) (by exact neq_int_eq (by exact rfl) (by exact rfl) (by exact rfl) (by first | assumption | omega)) ?_
    simp only [lay]
    refine lv (.bool false) (by exact xm) ?_
    simp only [lay]
    refine lv (.pointer (some ⟨g52, 0, none⟩)) (by exact xf 0 0 Try.underlying46) ?_
    simp only [lay]
    refine lv (.int .u8 M.ty) (by exact xc Try.underlying5 (hg60.cell 0 rfl)) ?_
    simp only [lay]
    by_cases q65 : M.ty = 3
    case pos =>
     refine lv (.bool false) (by exact neq_int_eq (by exact rfl) (by exact rfl) (by exact rfl) (by first | assumption | omega)) ?_
     simp only [lay]
     refine lv (.bool false) (by exact xm) ?_
     simp only [lay]
     refine lzn ?_
     simp only [lay]
     refine lzn ?_
     simp only [lay]
     refine lzn ?_
     simp only [lay]
     refine lv (.bool false) (by exact xp (b := false)) ?_
     simp only [lay]
     refine lv (.bool false) (by exact xm) ?_
     simp only [lay]
     refine lzn ?_
     simp only [lay]
     refine lzn ?_
     simp only [lay]
     refine lzn ?_
     simp only [lay]
     refine lv (.bool false) (by exact xp (b := false)) ?_
     simp only [lay]
     refine lv (.bool false) (by exact xp (b := false)) ?_
     simp only [lay]
     refine wn ?_
     refine wp_cond_false (by exact rfl) ?_
     refine wp_skip ?_
     change Code.wp _ _ _ _ _
     refine wp_sr ?_
     refine lv (.pointer (some ⟨g52, 3, none⟩)) (by exact xf 3 0 Try.underlying46) ?_
     simp only [lay]
     refine lv (.slice A47 M.bl.length c48) (by exact xc Try.underlying25 (hg60.cell 3 rfl)) ?_
     simp only [lay]
     have l66 : W45.heap.size ≤ g52 := Nat.le_of_eq ge55.symm
     have b67 := hb57.trans (hb62.mono l66)
     have own68 := hO50.to b67
     refine lz (ow_call (fun v w' => (∃ p, v = .tuple #[.agg (D.cells p), .int .i64 (pat4 E), .int .i64 E] ∧ Own4 w' W59.heap.size D p) ∧ Below W59.heap.size W59 w') (by exact xk Try.func53) (by have := ppart_x (own_byS own68); rw [hD, hEr] at this; exact this) ?_)
     rintro _ W69 ⟨⟨p71, rfl, ho72⟩, hb70⟩
     have z73 := hb70.size
     have hr74 := ho72.rd
     have hO75 := ho72.opt
     have hO76 := ho72.body
     simp only [lay]
     refine lv (.tuple #[.agg (D.cells p71), .int .i64 (pat4 E), .int .i64 E]) (by exact xm) ?_
     simp only [lay]
     refine lv (.agg (D.cells p71)) (by exact xe) ?_
     simp only [lay]
     refine lv (.int .i64 (pat4 E)) (by exact xe) ?_
     simp only [lay]
     refine lv (.int .i64 E) (by exact xe) ?_
     simp only [lay]
     refine lz (oa #[.int .u8 0, .int .u16 0, .bool false, .bool false, .int .i64 0, .int .u8 0, .int .u8 0, .int .u8 0, .int .u8 0, .int .u8 0, .int .u8 0, .int .u8 0, .int .u8 0, .int .u8 0, .int .u8 0, .slice none 0 0, .slice none 0 0] ?_)
     intro g77 W78 hg79 ge80 sz81 hb82
     have z83 := hb82.size
     simp only [lay]
     refine lz (ow_st 27 (.tmp 8) (.tmp 52) g77 (D.cells p71) _ _ rfl (by exact rfl) (by exact rfl) hg79 (by kernel_rfl) rfl (by kernel_rfl) ?_)
     intro W84 hg85 bs86 hb87
     have z88 := hb87.size
     simp only [lay]
     refine lv (.int .i64 (pat4 E)) (by exact xa) ?_
     simp only [lay]
     refine lv (.int .i64 E) (by exact xa) ?_
     simp only [lay]
     refine wn ?_
     refine wp_seq ?_
     refine wp_sr ?_
     refine lv (.int .i64 E) (by exact xm) ?_
     simp only [lay]
     by_cases q89 : E = 0
     case pos =>
      refine lv (.bool false) (by exact neq_int_eq (by exact rfl) (by exact rfl) (by exact rfl) (by first | assumption | omega)) ?_
      simp only [lay]
      refine wn ?_
      refine wp_cond_false (by exact rfl) ?_
      refine wp_skip ?_
      change Code.wp _ _ _ _ _
      refine wp_sr ?_
      refine lv (.pointer (some ⟨g77, 7, none⟩)) (by exact xf 7 3 Try.underlying27) ?_
      simp only [lay]
      refine lv (.agg #[.int .u8 D.s0, .int .u8 D.s1, .int .u8 D.s2, .int .u8 D.s3]) (by exact ex_loadAt (by exact rfl) (by exact rfl) (hg85.loadIn (P := Try.prog) 7 [.int .u8 D.s0, .int .u8 D.s1, .int .u8 D.s2, .int .u8 D.s3] (by kernel_rfl) 24 Try.underlying24 rfl (by kernel_rfl))) ?_
      simp only [lay]
      refine lv (.pointer (some ⟨g77, 11, none⟩)) (by exact xf 11 3 Try.underlying27) ?_
      simp only [lay]
      refine lv (.agg #[.int .u8 D.d0, .int .u8 D.d1, .int .u8 D.d2, .int .u8 D.d3]) (by exact ex_loadAt (by exact rfl) (by exact rfl) (hg85.loadIn (P := Try.prog) 11 [.int .u8 D.d0, .int .u8 D.d1, .int .u8 D.d2, .int .u8 D.d3] (by kernel_rfl) 24 Try.underlying24 rfl (by kernel_rfl))) ?_
      simp only [lay]
      refine lv (.agg #[.int .u8 D.s0, .int .u8 D.s1, .int .u8 D.s2, .int .u8 D.s3, .int .u8 D.d0, .int .u8 D.d1, .int .u8 D.d2, .int .u8 D.d3]) (by kernel_rfl) ?_
      simp only [lay]
      have b94 := bt hb19 hb25
      have b95 := bt b94 hb46
      have b96 := bt b95 hb57
      have l97 := lq b95 ge55
      have b98 := b96.trans (hb62.mono l97)
      have b99 := bt b98 hb70
      have b100 := bt b99 hb82
      have l101 := lq b99 ge80
      have b102 := b100.trans (hb87.mono l101)
      have has103 := hg10.to b102
      refine lz (ow_st 68 (.tmp 2) (.tmp 62) g8 #[.int .u8 D.s0, .int .u8 D.s1, .int .u8 D.s2, .int .u8 D.s3, .int .u8 D.d0, .int .u8 D.d1, .int .u8 D.d2, .int .u8 D.d3] _ _ rfl (by exact rfl) (by exact rfl) has103 (by kernel_rfl) rfl (by kernel_rfl) ?_)
      intro W90 hg91 bs92 hb93
      have b104 := bt b67 hb70
      have b105 := bt b104 hb82
      have l106 := lq b104 ge80
      have b107 := b105.trans (hb87.mono l106)
      have own108 := hO50.to b107
      have b109 := bt hb70 hb82
      have l110 := lq hb70 ge80
      have b111 := b109.trans (hb87.mono l110)
      have has112 := hg60.to b111
      have l113 : W69.heap.size ≤ g77 := Nat.le_of_eq ge80.symm
      have b114 := hb82.trans (hb87.mono l113)
      have own115 := hO75.to b114
      have own116 := hO76.to b114
      have z117 := hb93.size
      have own118 := own108.but6 bs92 (by omega)
      have has119 := has112.but6 bs92 (by omega)
      have own120 := own115.but6 bs92 (by omega)
      have own121 := own116.but6 bs92 (by omega)
      have has122 := hg85.but6 bs92 (by omega)
      simp only [lay]
      refine lv (.bool true) (by exact xa) ?_
      simp only [lay]
      refine lv (.int .i64 0) (by exact xa) ?_
      simp only [lay]
      refine wn ?_
      refine wp_ret ?_
      try simp only [Exit.then]
      have e : tells17 d = ((D.src, D.dst), true, 0) := by
       unfold tells17
       simp only [hM, hPE, hEr]
       simp only [show d.part = false from by assumption, Bool.false_eq_true, false_or]
       repeat (first | rw [if_pos (by first | assumption | omega | exact ne_true_of_eq_false (by assumption))] | rw [if_neg (by first | assumption | omega | exact ne_true_of_eq_false (by assumption))])
       rw [← hD, got4, if_pos (hEr.trans (by assumption))]
      have b123 := bt b43 hb46
      have b124 := bt b123 hb57
      have l125 := lq b123 ge55
      have b126 := b124.trans (hb62.mono l125)
      have b127 := bt b126 hb70
      have b128 := bt b127 hb82
      have l129 := lq b127 ge80
      have b130 := b128.trans (hb87.mono l129)
      have l131 := lq hb6 ge11
      have b132 := b130.trans (hb93.mono l131)
      exact bodyPost_ret (res_cell3 Try.results26 rfl (hg91.load (P := Try.prog) 68 Try.underlying68 rfl (by kernel_rfl)) rfl rfl) rfl ⟨by rw [e]; rfl, b132⟩
     refine lv (.bool true) (by exact neq_int_ne (by exact rfl) (by exact rfl) (by exact rfl) (by first | assumption | omega)) ?_
     simp only [lay]
     refine wn ?_
     refine wp_cond_true (by exact rfl) ?_
     refine wp_sr ?_
     refine lv (.agg #[.int .u8 0, .int .u8 0, .int .u8 0, .int .u8 0, .int .u8 0, .int .u8 0, .int .u8 0, .int .u8 0]) (by kernel_rfl) ?_
     simp only [lay]
     have b137 := bt hb19 hb25
     have b138 := bt b137 hb46
     have b139 := bt b138 hb57
     have l140 := lq b138 ge55
     have b141 := b139.trans (hb62.mono l140)
     have b142 := bt b141 hb70
     have b143 := bt b142 hb82
     have l144 := lq b142 ge80
     have b145 := b143.trans (hb87.mono l144)
     have has146 := hg10.to b145
     refine lz (ow_st 68 (.tmp 2) (.tmp 57) g8 #[.int .u8 0, .int .u8 0, .int .u8 0, .int .u8 0, .int .u8 0, .int .u8 0, .int .u8 0, .int .u8 0] _ _ rfl (by exact rfl) (by exact rfl) has146 (by kernel_rfl) rfl (by kernel_rfl) ?_)
     intro W133 hg134 bs135 hb136
     have b147 := bt b67 hb70
     have b148 := bt b147 hb82
     have l149 := lq b147 ge80
     have b150 := b148.trans (hb87.mono l149)
     have own151 := hO50.to b150
     have b152 := bt hb70 hb82
     have l153 := lq hb70 ge80
     have b154 := b152.trans (hb87.mono l153)
     have has155 := hg60.to b154
     have l156 : W69.heap.size ≤ g77 := Nat.le_of_eq ge80.symm
     have b157 := hb82.trans (hb87.mono l156)
     have own158 := hO75.to b157
     have own159 := hO76.to b157
     have z160 := hb136.size
     have own161 := own151.but6 bs135 (by omega)
     have has162 := has155.but6 bs135 (by omega)
     have own163 := own158.but6 bs135 (by omega)
     have own164 := own159.but6 bs135 (by omega)
     have has165 := hg85.but6 bs135 (by omega)
     simp only [lay]
     refine lv (.bool false) (by exact xa) ?_
     simp only [lay]
     refine lv (.int .i64 0) (by exact xa) ?_
     simp only [lay]
     refine wn ?_
     refine wp_ret ?_
     try simp only [Exit.then]
     have e : tells17 d = (([0, 0, 0, 0], [0, 0, 0, 0]), false, 0) := by
      unfold tells17
      simp only [hM, hPE, hEr]
      simp only [show d.part = false from by assumption, Bool.false_eq_true, false_or]
      repeat (first | rw [if_pos (by first | assumption | omega | exact ne_true_of_eq_false (by assumption))] | rw [if_neg (by first | assumption | omega | exact ne_true_of_eq_false (by assumption))])
     have b166 := bt b43 hb46
     have b167 := bt b166 hb57
     have l168 := lq b166 ge55
     have b169 := b167.trans (hb62.mono l168)
     have b170 := bt b169 hb70
     have b171 := bt b170 hb82
     have l172 := lq b170 ge80
     have b173 := b171.trans (hb87.mono l172)
     have l174 := lq hb6 ge11
     have b175 := b173.trans (hb136.mono l174)
     exact bodyPost_ret (res_cell3 Try.results26 rfl (hg134.load (P := Try.prog) 68 Try.underlying68 rfl (by kernel_rfl)) rfl rfl) rfl ⟨by rw [e]; rfl, b175⟩
    refine lv (.bool true) (by exact neq_int_ne (by exact rfl) (by exact rfl) (by exact rfl) (by first | assumption | omega)) ?_
    simp only [lay]
    refine lv (.bool true) (by exact xm) ?_
    simp only [lay]
    refine lv (.pointer (some ⟨g52, 0, none⟩)) (by exact xf 0 0 Try.underlying46) ?_
    simp only [lay]
    refine lv (.int .u8 M.ty) (by exact xc Try.underlying5 (hg60.cell 0 rfl)) ?_
    simp only [lay]
    by_cases q176 : M.ty = 11
    case pos =>
     refine lv (.bool false) (by exact neq_int_eq (by exact rfl) (by exact rfl) (by exact rfl) (by first | assumption | omega)) ?_
     simp only [lay]
     refine lv (.bool false) (by exact xp (b := true)) ?_
     simp only [lay]
     refine lv (.bool false) (by exact xm) ?_
     simp only [lay]
     refine lzn ?_
     simp only [lay]
     refine lzn ?_
     simp only [lay]
     refine lzn ?_
     simp only [lay]
     refine lv (.bool false) (by exact xp (b := false)) ?_
     simp only [lay]
     refine lv (.bool false) (by exact xp (b := false)) ?_
     simp only [lay]
     refine wn ?_
     refine wp_cond_false (by exact rfl) ?_
     refine wp_skip ?_
     change Code.wp _ _ _ _ _
     refine wp_sr ?_
     refine lv (.pointer (some ⟨g52, 3, none⟩)) (by exact xf 3 0 Try.underlying46) ?_
     simp only [lay]
     refine lv (.slice A47 M.bl.length c48) (by exact xc Try.underlying25 (hg60.cell 3 rfl)) ?_
     simp only [lay]
     have l177 : W45.heap.size ≤ g52 := Nat.le_of_eq ge55.symm
     have b178 := hb57.trans (hb62.mono l177)
     have own179 := hO50.to b178
     refine lz (ow_call (fun v w' => (∃ p, v = .tuple #[.agg (D.cells p), .int .i64 (pat4 E), .int .i64 E] ∧ Own4 w' W59.heap.size D p) ∧ Below W59.heap.size W59 w') (by exact xk Try.func53) (by have := ppart_x (own_byS own179); rw [hD, hEr] at this; exact this) ?_)
     rintro _ W180 ⟨⟨p182, rfl, ho183⟩, hb181⟩
     have z184 := hb181.size
     have hr185 := ho183.rd
     have hO186 := ho183.opt
     have hO187 := ho183.body
     simp only [lay]
     refine lv (.tuple #[.agg (D.cells p182), .int .i64 (pat4 E), .int .i64 E]) (by exact xm) ?_
     simp only [lay]
     refine lv (.agg (D.cells p182)) (by exact xe) ?_
     simp only [lay]
     refine lv (.int .i64 (pat4 E)) (by exact xe) ?_
     simp only [lay]
     refine lv (.int .i64 E) (by exact xe) ?_
     simp only [lay]
     refine lz (oa #[.int .u8 0, .int .u16 0, .bool false, .bool false, .int .i64 0, .int .u8 0, .int .u8 0, .int .u8 0, .int .u8 0, .int .u8 0, .int .u8 0, .int .u8 0, .int .u8 0, .int .u8 0, .int .u8 0, .slice none 0 0, .slice none 0 0] ?_)
     intro g188 W189 hg190 ge191 sz192 hb193
     have z194 := hb193.size
     simp only [lay]
     refine lz (ow_st 27 (.tmp 8) (.tmp 52) g188 (D.cells p182) _ _ rfl (by exact rfl) (by exact rfl) hg190 (by kernel_rfl) rfl (by kernel_rfl) ?_)
     intro W195 hg196 bs197 hb198
     have z199 := hb198.size
     simp only [lay]
     refine lv (.int .i64 (pat4 E)) (by exact xa) ?_
     simp only [lay]
     refine lv (.int .i64 E) (by exact xa) ?_
     simp only [lay]
     refine wn ?_
     refine wp_seq ?_
     refine wp_sr ?_
     refine lv (.int .i64 E) (by exact xm) ?_
     simp only [lay]
     by_cases q200 : E = 0
     case pos =>
      refine lv (.bool false) (by exact neq_int_eq (by exact rfl) (by exact rfl) (by exact rfl) (by first | assumption | omega)) ?_
      simp only [lay]
      refine wn ?_
      refine wp_cond_false (by exact rfl) ?_
      refine wp_skip ?_
      change Code.wp _ _ _ _ _
      refine wp_sr ?_
      refine lv (.pointer (some ⟨g188, 7, none⟩)) (by exact xf 7 3 Try.underlying27) ?_
      simp only [lay]
      refine lv (.agg #[.int .u8 D.s0, .int .u8 D.s1, .int .u8 D.s2, .int .u8 D.s3]) (by exact ex_loadAt (by exact rfl) (by exact rfl) (hg196.loadIn (P := Try.prog) 7 [.int .u8 D.s0, .int .u8 D.s1, .int .u8 D.s2, .int .u8 D.s3] (by kernel_rfl) 24 Try.underlying24 rfl (by kernel_rfl))) ?_
      simp only [lay]
      refine lv (.pointer (some ⟨g188, 11, none⟩)) (by exact xf 11 3 Try.underlying27) ?_
      simp only [lay]
      refine lv (.agg #[.int .u8 D.d0, .int .u8 D.d1, .int .u8 D.d2, .int .u8 D.d3]) (by exact ex_loadAt (by exact rfl) (by exact rfl) (hg196.loadIn (P := Try.prog) 11 [.int .u8 D.d0, .int .u8 D.d1, .int .u8 D.d2, .int .u8 D.d3] (by kernel_rfl) 24 Try.underlying24 rfl (by kernel_rfl))) ?_
      simp only [lay]
      refine lv (.agg #[.int .u8 D.s0, .int .u8 D.s1, .int .u8 D.s2, .int .u8 D.s3, .int .u8 D.d0, .int .u8 D.d1, .int .u8 D.d2, .int .u8 D.d3]) (by kernel_rfl) ?_
      simp only [lay]
      have b205 := bt hb19 hb25
      have b206 := bt b205 hb46
      have b207 := bt b206 hb57
      have l208 := lq b206 ge55
      have b209 := b207.trans (hb62.mono l208)
      have b210 := bt b209 hb181
      have b211 := bt b210 hb193
      have l212 := lq b210 ge191
      have b213 := b211.trans (hb198.mono l212)
      have has214 := hg10.to b213
      refine lz (ow_st 68 (.tmp 2) (.tmp 62) g8 #[.int .u8 D.s0, .int .u8 D.s1, .int .u8 D.s2, .int .u8 D.s3, .int .u8 D.d0, .int .u8 D.d1, .int .u8 D.d2, .int .u8 D.d3] _ _ rfl (by exact rfl) (by exact rfl) has214 (by kernel_rfl) rfl (by kernel_rfl) ?_)
      intro W201 hg202 bs203 hb204
      have b215 := bt b178 hb181
      have b216 := bt b215 hb193
      have l217 := lq b215 ge191
      have b218 := b216.trans (hb198.mono l217)
      have own219 := hO50.to b218
      have b220 := bt hb181 hb193
      have l221 := lq hb181 ge191
      have b222 := b220.trans (hb198.mono l221)
      have has223 := hg60.to b222
      have l224 : W180.heap.size ≤ g188 := Nat.le_of_eq ge191.symm
      have b225 := hb193.trans (hb198.mono l224)
      have own226 := hO186.to b225
      have own227 := hO187.to b225
      have z228 := hb204.size
      have own229 := own219.but6 bs203 (by omega)
      have has230 := has223.but6 bs203 (by omega)
      have own231 := own226.but6 bs203 (by omega)
      have own232 := own227.but6 bs203 (by omega)
      have has233 := hg196.but6 bs203 (by omega)
      simp only [lay]
      refine lv (.bool true) (by exact xa) ?_
      simp only [lay]
      refine lv (.int .i64 0) (by exact xa) ?_
      simp only [lay]
      refine wn ?_
      refine wp_ret ?_
      try simp only [Exit.then]
      have e : tells17 d = ((D.src, D.dst), true, 0) := by
       unfold tells17
       simp only [hM, hPE, hEr]
       simp only [show d.part = false from by assumption, Bool.false_eq_true, false_or]
       repeat (first | rw [if_pos (by first | assumption | omega | exact ne_true_of_eq_false (by assumption))] | rw [if_neg (by first | assumption | omega | exact ne_true_of_eq_false (by assumption))])
       rw [← hD, got4, if_pos (hEr.trans (by assumption))]
      have b234 := bt b43 hb46
      have b235 := bt b234 hb57
      have l236 := lq b234 ge55
      have b237 := b235.trans (hb62.mono l236)
      have b238 := bt b237 hb181
      have b239 := bt b238 hb193
      have l240 := lq b238 ge191
      have b241 := b239.trans (hb198.mono l240)
      have l242 := lq hb6 ge11
      have b243 := b241.trans (hb204.mono l242)
      exact bodyPost_ret (res_cell3 Try.results26 rfl (hg202.load (P := Try.prog) 68 Try.underlying68 rfl (by kernel_rfl)) rfl rfl) rfl ⟨by rw [e]; rfl, b243⟩
     refine lv (.bool true) (by exact neq_int_ne (by exact rfl) (by exact rfl) (by exact rfl) (by first | assumption | omega)) ?_
     simp only [lay]
     refine wn ?_
     refine wp_cond_true (by exact rfl) ?_
     refine wp_sr ?_
     refine lv (.agg #[.int .u8 0, .int .u8 0, .int .u8 0, .int .u8 0, .int .u8 0, .int .u8 0, .int .u8 0, .int .u8 0]) (by kernel_rfl) ?_
     simp only [lay]
     have b248 := bt hb19 hb25
     have b249 := bt b248 hb46
     have b250 := bt b249 hb57
     have l251 := lq b249 ge55
     have b252 := b250.trans (hb62.mono l251)
     have b253 := bt b252 hb181
     have b254 := bt b253 hb193
     have l255 := lq b253 ge191
     have b256 := b254.trans (hb198.mono l255)
     have has257 := hg10.to b256
     refine lz (ow_st 68 (.tmp 2) (.tmp 57) g8 #[.int .u8 0, .int .u8 0, .int .u8 0, .int .u8 0, .int .u8 0, .int .u8 0, .int .u8 0, .int .u8 0] _ _ rfl (by exact rfl) (by exact rfl) has257 (by kernel_rfl) rfl (by kernel_rfl) ?_)
     intro W244 hg245 bs246 hb247
     have b258 := bt b178 hb181
     have b259 := bt b258 hb193
     have l260 := lq b258 ge191
     have b261 := b259.trans (hb198.mono l260)
     have own262 := hO50.to b261
     have b263 := bt hb181 hb193
     have l264 := lq hb181 ge191
     have b265 := b263.trans (hb198.mono l264)
     have has266 := hg60.to b265
     have l267 : W180.heap.size ≤ g188 := Nat.le_of_eq ge191.symm
     have b268 := hb193.trans (hb198.mono l267)
     have own269 := hO186.to b268
     have own270 := hO187.to b268
     have z271 := hb247.size
     have own272 := own262.but6 bs246 (by omega)
     have has273 := has266.but6 bs246 (by omega)
     have own274 := own269.but6 bs246 (by omega)
     have own275 := own270.but6 bs246 (by omega)
     have has276 := hg196.but6 bs246 (by omega)
     simp only [lay]
     refine lv (.bool false) (by exact xa) ?_
     simp only [lay]
     refine lv (.int .i64 0) (by exact xa) ?_
     simp only [lay]
     refine wn ?_
     refine wp_ret ?_
     try simp only [Exit.then]
     have e : tells17 d = (([0, 0, 0, 0], [0, 0, 0, 0]), false, 0) := by
      unfold tells17
      simp only [hM, hPE, hEr]
      simp only [show d.part = false from by assumption, Bool.false_eq_true, false_or]
      repeat (first | rw [if_pos (by first | assumption | omega | exact ne_true_of_eq_false (by assumption))] | rw [if_neg (by first | assumption | omega | exact ne_true_of_eq_false (by assumption))])
     have b277 := bt b43 hb46
     have b278 := bt b277 hb57
     have l279 := lq b277 ge55
     have b280 := b278.trans (hb62.mono l279)
     have b281 := bt b280 hb181
     have b282 := bt b281 hb193
     have l283 := lq b281 ge191
     have b284 := b282.trans (hb198.mono l283)
     have l285 := lq hb6 ge11
     have b286 := b284.trans (hb247.mono l285)
     exact bodyPost_ret (res_cell3 Try.results26 rfl (hg245.load (P := Try.prog) 68 Try.underlying68 rfl (by kernel_rfl)) rfl rfl) rfl ⟨by rw [e]; rfl, b286⟩
    refine lv (.bool true) (by exact neq_int_ne (by exact rfl) (by exact rfl) (by exact rfl) (by first | assumption | omega)) ?_
    simp only [lay]
    refine lv (.bool true) (by exact xp (b := true)) ?_
    simp only [lay]
    refine lv (.bool true) (by exact xm) ?_
    simp only [lay]
    refine lv (.pointer (some ⟨g52, 0, none⟩)) (by exact xf 0 0 Try.underlying46) ?_
    simp only [lay]
    refine lv (.int .u8 M.ty) (by exact xc Try.underlying5 (hg60.cell 0 rfl)) ?_
    simp only [lay]
    by_cases q287 : M.ty = 12
    case pos =>
     refine lv (.bool false) (by exact neq_int_eq (by exact rfl) (by exact rfl) (by exact rfl) (by first | assumption | omega)) ?_
     simp only [lay]
     refine lv (.bool false) (by exact xp (b := true)) ?_
     simp only [lay]
     refine lv (.bool false) (by exact xp (b := false)) ?_
     simp only [lay]
     refine wn ?_
     refine wp_cond_false (by exact rfl) ?_
     refine wp_skip ?_
     change Code.wp _ _ _ _ _
     refine wp_sr ?_
     refine lv (.pointer (some ⟨g52, 3, none⟩)) (by exact xf 3 0 Try.underlying46) ?_
     simp only [lay]
     refine lv (.slice A47 M.bl.length c48) (by exact xc Try.underlying25 (hg60.cell 3 rfl)) ?_
     simp only [lay]
     have l288 : W45.heap.size ≤ g52 := Nat.le_of_eq ge55.symm
     have b289 := hb57.trans (hb62.mono l288)
     have own290 := hO50.to b289
     refine lz (ow_call (fun v w' => (∃ p, v = .tuple #[.agg (D.cells p), .int .i64 (pat4 E), .int .i64 E] ∧ Own4 w' W59.heap.size D p) ∧ Below W59.heap.size W59 w') (by exact xk Try.func53) (by have := ppart_x (own_byS own290); rw [hD, hEr] at this; exact this) ?_)
     rintro _ W291 ⟨⟨p293, rfl, ho294⟩, hb292⟩
     have z295 := hb292.size
     have hr296 := ho294.rd
     have hO297 := ho294.opt
     have hO298 := ho294.body
     simp only [lay]
     refine lv (.tuple #[.agg (D.cells p293), .int .i64 (pat4 E), .int .i64 E]) (by exact xm) ?_
     simp only [lay]
     refine lv (.agg (D.cells p293)) (by exact xe) ?_
     simp only [lay]
     refine lv (.int .i64 (pat4 E)) (by exact xe) ?_
     simp only [lay]
     refine lv (.int .i64 E) (by exact xe) ?_
     simp only [lay]
     refine lz (oa #[.int .u8 0, .int .u16 0, .bool false, .bool false, .int .i64 0, .int .u8 0, .int .u8 0, .int .u8 0, .int .u8 0, .int .u8 0, .int .u8 0, .int .u8 0, .int .u8 0, .int .u8 0, .int .u8 0, .slice none 0 0, .slice none 0 0] ?_)
     intro g299 W300 hg301 ge302 sz303 hb304
     have z305 := hb304.size
     simp only [lay]
     refine lz (ow_st 27 (.tmp 8) (.tmp 52) g299 (D.cells p293) _ _ rfl (by exact rfl) (by exact rfl) hg301 (by kernel_rfl) rfl (by kernel_rfl) ?_)
     intro W306 hg307 bs308 hb309
     have z310 := hb309.size
     simp only [lay]
     refine lv (.int .i64 (pat4 E)) (by exact xa) ?_
     simp only [lay]
     refine lv (.int .i64 E) (by exact xa) ?_
     simp only [lay]
     refine wn ?_
     refine wp_seq ?_
     refine wp_sr ?_
     refine lv (.int .i64 E) (by exact xm) ?_
     simp only [lay]
     by_cases q311 : E = 0
     case pos =>
      refine lv (.bool false) (by exact neq_int_eq (by exact rfl) (by exact rfl) (by exact rfl) (by first | assumption | omega)) ?_
      simp only [lay]
      refine wn ?_
      refine wp_cond_false (by exact rfl) ?_
      refine wp_skip ?_
      change Code.wp _ _ _ _ _
      refine wp_sr ?_
      refine lv (.pointer (some ⟨g299, 7, none⟩)) (by exact xf 7 3 Try.underlying27) ?_
      simp only [lay]
      refine lv (.agg #[.int .u8 D.s0, .int .u8 D.s1, .int .u8 D.s2, .int .u8 D.s3]) (by exact ex_loadAt (by exact rfl) (by exact rfl) (hg307.loadIn (P := Try.prog) 7 [.int .u8 D.s0, .int .u8 D.s1, .int .u8 D.s2, .int .u8 D.s3] (by kernel_rfl) 24 Try.underlying24 rfl (by kernel_rfl))) ?_
      simp only [lay]
      refine lv (.pointer (some ⟨g299, 11, none⟩)) (by exact xf 11 3 Try.underlying27) ?_
      simp only [lay]
      refine lv (.agg #[.int .u8 D.d0, .int .u8 D.d1, .int .u8 D.d2, .int .u8 D.d3]) (by exact ex_loadAt (by exact rfl) (by exact rfl) (hg307.loadIn (P := Try.prog) 11 [.int .u8 D.d0, .int .u8 D.d1, .int .u8 D.d2, .int .u8 D.d3] (by kernel_rfl) 24 Try.underlying24 rfl (by kernel_rfl))) ?_
      simp only [lay]
      refine lv (.agg #[.int .u8 D.s0, .int .u8 D.s1, .int .u8 D.s2, .int .u8 D.s3, .int .u8 D.d0, .int .u8 D.d1, .int .u8 D.d2, .int .u8 D.d3]) (by kernel_rfl) ?_
      simp only [lay]
      have b316 := bt hb19 hb25
      have b317 := bt b316 hb46
      have b318 := bt b317 hb57
      have l319 := lq b317 ge55
      have b320 := b318.trans (hb62.mono l319)
      have b321 := bt b320 hb292
      have b322 := bt b321 hb304
      have l323 := lq b321 ge302
      have b324 := b322.trans (hb309.mono l323)
      have has325 := hg10.to b324
      refine lz (ow_st 68 (.tmp 2) (.tmp 62) g8 #[.int .u8 D.s0, .int .u8 D.s1, .int .u8 D.s2, .int .u8 D.s3, .int .u8 D.d0, .int .u8 D.d1, .int .u8 D.d2, .int .u8 D.d3] _ _ rfl (by exact rfl) (by exact rfl) has325 (by kernel_rfl) rfl (by kernel_rfl) ?_)
      intro W312 hg313 bs314 hb315
      have b326 := bt b289 hb292
      have b327 := bt b326 hb304
      have l328 := lq b326 ge302
      have b329 := b327.trans (hb309.mono l328)
      have own330 := hO50.to b329
      have b331 := bt hb292 hb304
      have l332 := lq hb292 ge302
      have b333 := b331.trans (hb309.mono l332)
      have has334 := hg60.to b333
      have l335 : W291.heap.size ≤ g299 := Nat.le_of_eq ge302.symm
      have b336 := hb304.trans (hb309.mono l335)
      have own337 := hO297.to b336
      have own338 := hO298.to b336
      have z339 := hb315.size
      have own340 := own330.but6 bs314 (by omega)
      have has341 := has334.but6 bs314 (by omega)
      have own342 := own337.but6 bs314 (by omega)
      have own343 := own338.but6 bs314 (by omega)
      have has344 := hg307.but6 bs314 (by omega)
      simp only [lay]
      refine lv (.bool true) (by exact xa) ?_
      simp only [lay]
      refine lv (.int .i64 0) (by exact xa) ?_
      simp only [lay]
      refine wn ?_
      refine wp_ret ?_
      try simp only [Exit.then]
      have e : tells17 d = ((D.src, D.dst), true, 0) := by
       unfold tells17
       simp only [hM, hPE, hEr]
       simp only [show d.part = false from by assumption, Bool.false_eq_true, false_or]
       repeat (first | rw [if_pos (by first | assumption | omega | exact ne_true_of_eq_false (by assumption))] | rw [if_neg (by first | assumption | omega | exact ne_true_of_eq_false (by assumption))])
       rw [← hD, got4, if_pos (hEr.trans (by assumption))]
      have b345 := bt b43 hb46
      have b346 := bt b345 hb57
      have l347 := lq b345 ge55
      have b348 := b346.trans (hb62.mono l347)
      have b349 := bt b348 hb292
      have b350 := bt b349 hb304
      have l351 := lq b349 ge302
      have b352 := b350.trans (hb309.mono l351)
      have l353 := lq hb6 ge11
      have b354 := b352.trans (hb315.mono l353)
      exact bodyPost_ret (res_cell3 Try.results26 rfl (hg313.load (P := Try.prog) 68 Try.underlying68 rfl (by kernel_rfl)) rfl rfl) rfl ⟨by rw [e]; rfl, b354⟩
     refine lv (.bool true) (by exact neq_int_ne (by exact rfl) (by exact rfl) (by exact rfl) (by first | assumption | omega)) ?_
     simp only [lay]
     refine wn ?_
     refine wp_cond_true (by exact rfl) ?_
     refine wp_sr ?_
     refine lv (.agg #[.int .u8 0, .int .u8 0, .int .u8 0, .int .u8 0, .int .u8 0, .int .u8 0, .int .u8 0, .int .u8 0]) (by kernel_rfl) ?_
     simp only [lay]
     have b359 := bt hb19 hb25
     have b360 := bt b359 hb46
     have b361 := bt b360 hb57
     have l362 := lq b360 ge55
     have b363 := b361.trans (hb62.mono l362)
     have b364 := bt b363 hb292
     have b365 := bt b364 hb304
     have l366 := lq b364 ge302
     have b367 := b365.trans (hb309.mono l366)
     have has368 := hg10.to b367
     refine lz (ow_st 68 (.tmp 2) (.tmp 57) g8 #[.int .u8 0, .int .u8 0, .int .u8 0, .int .u8 0, .int .u8 0, .int .u8 0, .int .u8 0, .int .u8 0] _ _ rfl (by exact rfl) (by exact rfl) has368 (by kernel_rfl) rfl (by kernel_rfl) ?_)
     intro W355 hg356 bs357 hb358
     have b369 := bt b289 hb292
     have b370 := bt b369 hb304
     have l371 := lq b369 ge302
     have b372 := b370.trans (hb309.mono l371)
     have own373 := hO50.to b372
     have b374 := bt hb292 hb304
     have l375 := lq hb292 ge302
     have b376 := b374.trans (hb309.mono l375)
     have has377 := hg60.to b376
     have l378 : W291.heap.size ≤ g299 := Nat.le_of_eq ge302.symm
     have b379 := hb304.trans (hb309.mono l378)
     have own380 := hO297.to b379
     have own381 := hO298.to b379
     have z382 := hb358.size
     have own383 := own373.but6 bs357 (by omega)
     have has384 := has377.but6 bs357 (by omega)
     have own385 := own380.but6 bs357 (by omega)
     have own386 := own381.but6 bs357 (by omega)
     have has387 := hg307.but6 bs357 (by omega)
     simp only [lay]
     refine lv (.bool false) (by exact xa) ?_
     simp only [lay]
     refine lv (.int .i64 0) (by exact xa) ?_
     simp only [lay]
     refine wn ?_
     refine wp_ret ?_
     try simp only [Exit.then]
     have e : tells17 d = (([0, 0, 0, 0], [0, 0, 0, 0]), false, 0) := by
      unfold tells17
      simp only [hM, hPE, hEr]
      simp only [show d.part = false from by assumption, Bool.false_eq_true, false_or]
      repeat (first | rw [if_pos (by first | assumption | omega | exact ne_true_of_eq_false (by assumption))] | rw [if_neg (by first | assumption | omega | exact ne_true_of_eq_false (by assumption))])
     have b388 := bt b43 hb46
     have b389 := bt b388 hb57
     have l390 := lq b388 ge55
     have b391 := b389.trans (hb62.mono l390)
     have b392 := bt b391 hb292
     have b393 := bt b392 hb304
     have l394 := lq b392 ge302
     have b395 := b393.trans (hb309.mono l394)
     have l396 := lq hb6 ge11
     have b397 := b395.trans (hb358.mono l396)
     exact bodyPost_ret (res_cell3 Try.results26 rfl (hg356.load (P := Try.prog) 68 Try.underlying68 rfl (by kernel_rfl)) rfl rfl) rfl ⟨by rw [e]; rfl, b397⟩
    refine lv (.bool true) (by exact neq_int_ne (by exact rfl) (by exact rfl) (by exact rfl) (by first | assumption | omega)) ?_
    simp only [lay]
    refine lv (.bool true) (by exact xp (b := true)) ?_
    simp only [lay]
    refine lv (.bool true) (by exact xp (b := false)) ?_
    simp only [lay]
    refine wn ?_
    refine wp_cond_true (by exact rfl) ?_
    refine wp_sr ?_
    refine lv (.agg #[.int .u8 0, .int .u8 0, .int .u8 0, .int .u8 0, .int .u8 0, .int .u8 0, .int .u8 0, .int .u8 0]) (by kernel_rfl) ?_
    simp only [lay]
    have b402 := bt hb19 hb25
    have b403 := bt b402 hb46
    have b404 := bt b403 hb57
    have l405 := lq b403 ge55
    have b406 := b404.trans (hb62.mono l405)
    have has407 := hg10.to b406
    refine lz (ow_st 68 (.tmp 2) (.tmp 47) g8 #[.int .u8 0, .int .u8 0, .int .u8 0, .int .u8 0, .int .u8 0, .int .u8 0, .int .u8 0, .int .u8 0] _ _ rfl (by exact rfl) (by exact rfl) has407 (by kernel_rfl) rfl (by kernel_rfl) ?_)
    intro W398 hg399 bs400 hb401
    have l408 : W45.heap.size ≤ g52 := Nat.le_of_eq ge55.symm
    have b409 := hb57.trans (hb62.mono l408)
    have own410 := hO50.to b409
    have z411 := hb401.size
    have own412 := own410.but6 bs400 (by omega)
    have has413 := hg60.but6 bs400 (by omega)
    simp only [lay]
    refine lv (.bool false) (by exact xa) ?_
    simp only [lay]
    refine lv (.int .i64 0) (by exact xa) ?_
    simp only [lay]
    refine wn ?_
    refine wp_ret ?_
    try simp only [Exit.then]
    have e : tells17 d = (([0, 0, 0, 0], [0, 0, 0, 0]), false, 0) := by
     unfold tells17
     simp only [hM, hPE, hEr]
     simp only [show d.part = false from by assumption, Bool.false_eq_true, false_or]
     repeat (first | rw [if_pos (by first | assumption | omega | exact ne_true_of_eq_false (by assumption))] | rw [if_neg (by first | assumption | omega | exact ne_true_of_eq_false (by assumption))])
    have b414 := bt b43 hb46
    have b415 := bt b414 hb57
    have l416 := lq b414 ge55
    have b417 := b415.trans (hb62.mono l416)
    have l418 := lq hb6 ge11
    have b419 := b417.trans (hb401.mono l418)
    exact bodyPost_ret (res_cell3 Try.results26 rfl (hg399.load (P := Try.prog) 68 Try.underlying68 rfl (by kernel_rfl)) rfl rfl) rfl ⟨by rw [e]; rfl, b419⟩
   refine lv (.bool true) (by exact neq_int_ne (by exact rfl) (by exact rfl) (by exact rfl) (by first | assumption | omega)) ?_
   simp only [lay]
   refine lv (.bool true) (by exact xm) ?_
   simp only [lay]
   refine lzn ?_
   simp only [lay]
   refine lzn ?_
   simp only [lay]
   refine lzn ?_
   simp only [lay]
   refine lzn ?_
   simp only [lay]
   refine lzn ?_
   simp only [lay]
   refine lzn ?_
   simp only [lay]
   refine lzn ?_
   simp only [lay]
   refine lzn ?_
   simp only [lay]
   refine lzn ?_
   simp only [lay]
   refine lzn ?_
   simp only [lay]
   refine lzn ?_
   simp only [lay]
   refine lzn ?_
   simp only [lay]
   refine lzn ?_
   simp only [lay]
   refine lv (.bool true) (by exact xp (b := true)) ?_
   simp only [lay]
   refine wn ?_
   refine wp_cond_true (by exact rfl) ?_
   refine wp_sr ?_
   refine lv (.agg #[.int .u8 0, .int .u8 0, .int .u8 0, .int .u8 0, .int .u8 0, .int .u8 0, .int .u8 0, .int .u8 0]) (by kernel_rfl) ?_
   simp only [lay]
   have b424 := bt hb19 hb25
   have b425 := bt b424 hb46
   have b426 := bt b425 hb57
   have l427 := lq b425 ge55
   have b428 := b426.trans (hb62.mono l427)
   have has429 := hg10.to b428
   refine lz (ow_st 68 (.tmp 2) (.tmp 47) g8 #[.int .u8 0, .int .u8 0, .int .u8 0, .int .u8 0, .int .u8 0, .int .u8 0, .int .u8 0, .int .u8 0] _ _ rfl (by exact rfl) (by exact rfl) has429 (by kernel_rfl) rfl (by kernel_rfl) ?_)
   intro W420 hg421 bs422 hb423
   have l430 : W45.heap.size ≤ g52 := Nat.le_of_eq ge55.symm
   have b431 := hb57.trans (hb62.mono l430)
   have own432 := hO50.to b431
   have z433 := hb423.size
   have own434 := own432.but6 bs422 (by omega)
   have has435 := hg60.but6 bs422 (by omega)
   simp only [lay]
   refine lv (.bool false) (by exact xa) ?_
   simp only [lay]
   refine lv (.int .i64 0) (by exact xa) ?_
   simp only [lay]
   refine wn ?_
   refine wp_ret ?_
   try simp only [Exit.then]
   have e : tells17 d = (([0, 0, 0, 0], [0, 0, 0, 0]), false, 0) := by
    unfold tells17
    simp only [hM, hPE, hEr]
    simp only [show d.part = false from by assumption, Bool.false_eq_true, false_or]
    repeat (first | rw [if_pos (by first | assumption | omega | exact ne_true_of_eq_false (by assumption))] | rw [if_neg (by first | assumption | omega | exact ne_true_of_eq_false (by assumption))])
   have b436 := bt b43 hb46
   have b437 := bt b436 hb57
   have l438 := lq b436 ge55
   have b439 := b437.trans (hb62.mono l438)
   have l440 := lq hb6 ge11
   have b441 := b439.trans (hb423.mono l440)
   exact bodyPost_ret (res_cell3 Try.results26 rfl (hg421.load (P := Try.prog) 68 Try.underlying68 rfl (by kernel_rfl)) rfl rfl) rfl ⟨by rw [e]; rfl, b441⟩
  refine lv (.bool true) (by exact neq_int_ne (by exact rfl) (by exact rfl) (by exact rfl) (by first | assumption | omega)) ?_
  simp only [lay]
  refine lv (.bool true) (by exact xp (b := false)) ?_
  simp only [lay]
  refine wn ?_
  refine wp_cond_true (by exact rfl) ?_
  refine wp_sr ?_
  refine lv (.agg #[.int .u8 0, .int .u8 0, .int .u8 0, .int .u8 0, .int .u8 0, .int .u8 0, .int .u8 0, .int .u8 0]) (by kernel_rfl) ?_
  simp only [lay]
  have b446 := bt hb19 hb25
  have has447 := hg10.to b446
  refine lz (ow_st 68 (.tmp 2) (.tmp 23) g8 #[.int .u8 0, .int .u8 0, .int .u8 0, .int .u8 0, .int .u8 0, .int .u8 0, .int .u8 0, .int .u8 0] _ _ rfl (by exact rfl) (by exact rfl) has447 (by kernel_rfl) rfl (by kernel_rfl) ?_)
  intro W442 hg443 bs444 hb445
  have z448 := hb445.size
  simp only [lay]
  refine lv (.bool false) (by exact xa) ?_
  simp only [lay]
  refine lv (.int .i64 0) (by exact xa) ?_
  simp only [lay]
  refine wn ?_
  refine wp_ret ?_
  try simp only [Exit.then]
  have e : tells17 d = (([0, 0, 0, 0], [0, 0, 0, 0]), false, 0) := by
   unfold tells17
   simp only [hM, hPE, hEr]
   simp only [show d.part = false from by assumption, Bool.false_eq_true, false_or]
   repeat (first | rw [if_pos (by first | assumption | omega | exact ne_true_of_eq_false (by assumption))] | rw [if_neg (by first | assumption | omega | exact ne_true_of_eq_false (by assumption))])
  have b449 := bt b16 hb19
  have b450 := bt b449 hb25
  have l451 := lq hb6 ge11
  have b452 := b450.trans (hb445.mono l451)
  exact bodyPost_ret (res_cell3 Try.results26 rfl (hg443.load (P := Try.prog) 68 Try.underlying68 rfl (by kernel_rfl)) rfl rfl) rfl ⟨by rw [e]; rfl, b452⟩
 refine lv (.bool true) (by exact neq_int_ne (by exact rfl) (by exact rfl) (by exact rfl) (by first | assumption | omega)) ?_
 simp only [lay]
 refine wn ?_
 refine wp_cond_true (by exact rfl) ?_
 refine wp_sr ?_
 refine lv (.agg #[.int .u8 0, .int .u8 0, .int .u8 0, .int .u8 0, .int .u8 0, .int .u8 0, .int .u8 0, .int .u8 0]) (by kernel_rfl) ?_
 simp only [lay]
 refine lv (.int .i64 d.check) (by exact xm) ?_
 simp only [lay]
 have has457 := hg10.to hb19
 refine lz (ow_st 68 (.tmp 2) (.tmp 14) g8 #[.int .u8 0, .int .u8 0, .int .u8 0, .int .u8 0, .int .u8 0, .int .u8 0, .int .u8 0, .int .u8 0] _ _ rfl (by exact rfl) (by exact rfl) has457 (by kernel_rfl) rfl (by kernel_rfl) ?_)
 intro W453 hg454 bs455 hb456
 have z458 := hb456.size
 simp only [lay]
 refine lv (.bool false) (by exact xa) ?_
 simp only [lay]
 refine lv (.int .i64 d.check) (by exact xa) ?_
 simp only [lay]
 refine wn ?_
 refine wp_ret ?_
 try simp only [Exit.then]
 have e : tells17 d = (([0, 0, 0, 0], [0, 0, 0, 0]), false, d.check) := by
  unfold tells17
  simp only [hM, hPE, hEr]
  repeat (first | rw [if_pos (by first | assumption | omega | exact ne_true_of_eq_false (by assumption))] | rw [if_neg (by first | assumption | omega | exact ne_true_of_eq_false (by assumption))])
 have b459 := bt b16 hb19
 have l460 := lq hb6 ge11
 have b461 := b459.trans (hb456.mono l460)
 exact bodyPost_ret (res_cell3 Try.results26 rfl (hg454.load (P := Try.prog) 68 Try.underlying68 rfl (by kernel_rfl)) rfl rfl) rfl ⟨by rw [e]; rfl, b461⟩
end Go.Proofs.Ytijnifbpbgckgaa
