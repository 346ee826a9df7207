/-
  Lemmas and walks for the row of TosixTells (part 37 of 39).
-/
import Derived.Test.YtijnifbpbgckgaaTtAF
import Derived.Test.YtijnifbpbgckgaaTtBG
import Derived.Test.YtijnifbpbgckgaaTtBJ
set_option linter.unusedVariables false
set_option linter.unusedSimpArgs false
namespace Go.Proofs.Ytijnifbpbgckgaa
open Go.RowKit Go.Shelf
attribute [local irreducible] wpList Code.wp Oper.wp wpOp wpAnyH

set_option maxRecDepth 100000 in
set_option maxHeartbeats 8000000 in
theorem rtells17_any (d : D4) (p : W4) (w : World) (hR : Rd4 w.heap.size w d p) :
  Calls Try.prog 27 #[.agg (d.cells p)] w fun e w' => e = .returned (.tuple #[.agg (ends4 (tells17 d).1.1 (tells17 d).1.2), .bool (tells17 d).2.1, .int .i64 (tells17 d).2.2]) ∧ Below w.heap.size w w' := by
 obtain ⟨M, hM⟩ : ∃ x, parse7 d.bl [] = x := ⟨_, rfl⟩
 obtain ⟨PE, hPE⟩ : ∃ x, perr7 d.bl [] = x := ⟨_, rfl⟩
 obtain ⟨D, hD⟩ : ∃ x, got4 true M.bl = x := ⟨_, rfl⟩
 obtain ⟨E, hEr⟩ : ∃ x, pe4 true M.bl = x := ⟨_, rfl⟩
 have yo := hR.opt
 have yb := hR.body
 go_enter Try.func27, Try.ntmps27
 refine wp_sr ?_
 refine lz (ow_box 27 (.tmp 0) _ rfl rfl ?_)
 intro g1 W2 hg3 ge4 sz5 hb6
 have z7 := hb6.size
 simp only [lay]
 refine lz (oa #[.int .u8 0, .int .u8 0, .int .u8 0, .int .u8 0, .int .u8 0, .int .u8 0, .int .u8 0, .int .u8 0] ?_)
 intro g8 W9 hg10 ge11 sz12 hb13
 have z14 := hb13.size
 simp only [lay]
 refine lv (.bool false) (by exact xa) ?_
 simp only [lay]
 refine lv (.int .i64 0) (by exact xa) ?_
 simp only [lay]
 refine wn ?_
 refine wp_sr ?_
 have has15 := hg3.to hb13
 refine lv (.agg (d.cells p)) (by exact xo (has15.load (P := Try.prog) 27 Try.underlying27 rfl (by kernel_rfl))) ?_
 simp only [lay]
 have b16 := bt hb6 hb13
 have rd17 := hR.to b16
 refine lz (ow_call (fun v w' => v = .int .i64 d.check ∧ Below W9.heap.size W9 w') (by exact xk Try.func25) (rcheck_x rd17) ?_)
 rintro _ W18 ⟨rfl, hb19⟩
 have z20 := hb19.size
 simp only [lay]
 refine lv (.int .i64 d.check) (by exact xa) ?_
 simp only [lay]
 refine wn ?_
 refine wp_seq ?_
 refine wp_sr ?_
 refine lv (.int .i64 d.check) (by exact xm) ?_
 simp only [lay]
 by_cases q21 : d.check = 0
 case pos =>
  obtain ⟨hof, hol, -, hbl⟩ := D4.ok_of_check q21
  refine lv (.bool false) (by exact neq_int_eq (by exact rfl) (by exact rfl) (by exact rfl) (by first | assumption | omega)) ?_
  simp only [lay]
  refine wn ?_
  refine wp_cond_false (by exact rfl) ?_
  refine wp_skip ?_
  change Code.wp _ _ _ _ _
  refine wp_seq ?_
  refine wp_sr ?_
  refine lv (.pointer (some ⟨g1, 4, none⟩)) (by exact xf 4 0 Try.underlying27) ?_
  simp only [lay]
  have b22 := bt hb13 hb19
  have has23 := hg3.to b22
  refine lv (.int .i64 d.off) (by exact xc Try.underlying3 (has23.cell 4 rfl)) ?_
  simp only [lay]
  by_cases q24 : d.off > 0
  case pos =>
   refine lv (.bool true) (by exact ex_gtr (by exact rfl) (by exact rfl) (by exact rfl) (decide_eq_true (by first | assumption | omega | decide))) ?_
   simp only [lay]
   refine lv (.bool true) (by exact xm) ?_
   simp only [lay]
   refine lzn ?_
   simp only [lay]
   refine lzn ?_
   simp only [lay]
   refine lv (.bool true) (by exact xp (b := true)) ?_
   simp only [lay]
   refine lv (.bool true) (by exact xm) ?_
   simp only [lay]
   refine lzn ?_
   simp only [lay]
   refine lzn ?_
   simp only [lay]
   refine lzn ?_
   simp only [lay]
   refine lv (.bool true) (by exact xp (b := true)) ?_
   simp only [lay]
   refine wn ?_
   refine wp_cond_true (by exact rfl) ?_
   refine wp_sr ?_
   refine lv (.agg #[.int .u8 0, .int .u8 0, .int .u8 0, .int .u8 0, .int .u8 0, .int .u8 0, .int .u8 0, .int .u8 0]) (by kernel_rfl) ?_
   simp only [lay]
   have has29 := hg10.to hb19
   refine lz (ow_st 68 (.tmp 2) (.tmp 29) g8 #[.int .u8 0, .int .u8 0, .int .u8 0, .int .u8 0, .int .u8 0, .int .u8 0, .int .u8 0, .int .u8 0] _ _ rfl (by exact rfl) (by exact rfl) has29 (by kernel_rfl) rfl (by kernel_rfl) ?_)
   intro W25 hg26 bs27 hb28
   have z30 := hb28.size
   simp only [lay]
   refine lv (.bool false) (by exact xa) ?_
   simp only [lay]
   refine lv (.int .i64 0) (by exact xa) ?_
   simp only [lay]
   refine wn ?_
   refine wp_ret ?_
   try simp only [Exit.then]
   have qp : d.part = true := by unfold D4.part; simp [*]; try omega
   have e : tells17 d = (([0, 0, 0, 0], [0, 0, 0, 0]), false, 0) := by
    unfold tells17
    simp only [hM, hPE, hEr]
    simp only [qp, true_or, if_true]
    repeat (first | rw [if_pos (by first | assumption | omega | exact ne_true_of_eq_false (by assumption))] | rw [if_neg (by first | assumption | omega | exact ne_true_of_eq_false (by assumption))])
   have b31 := bt b16 hb19
   have l32 := lq hb6 ge11
   have b33 := b31.trans (hb28.mono l32)
   exact bodyPost_ret (res_cell3 Try.results27 rfl (hg26.load (P := Try.prog) 68 Try.underlying68 rfl (by kernel_rfl)) rfl rfl) rfl ⟨by rw [e]; rfl, b33⟩
  refine lv (.bool false) (by exact ex_gtr (by exact rfl) (by exact rfl) (by exact rfl) (decide_eq_false (by first | assumption | omega | decide))) ?_
  simp only [lay]
  refine lv (.bool false) (by exact xm) ?_
  simp only [lay]
  refine lv (.pointer (some ⟨g1, 3, none⟩)) (by exact xf 3 0 Try.underlying27) ?_
  simp only [lay]
  refine lv (.bool d.mf) (by exact xc Try.underlying4 (has23.cell 3 rfl)) ?_
  simp only [lay]
  refine lv (.bool d.mf) (by exact xp (b := false)) ?_
  simp only [lay]
  refine lv (.bool d.mf) (by exact xm) ?_
  simp only [lay]
  by_cases q34 : d.mf = true
  case pos =>
   rw [q34]
   refine lzn ?_
   simp only [lay]
   refine lzn ?_
   simp only [lay]
   refine lzn ?_
   simp only [lay]
   refine lv (.bool true) (by exact xp (b := true)) ?_
   simp only [lay]
   refine wn ?_
   refine wp_cond_true (by exact rfl) ?_
   refine wp_sr ?_
   refine lv (.agg #[.int .u8 0, .int .u8 0, .int .u8 0, .int .u8 0, .int .u8 0, .int .u8 0, .int .u8 0, .int .u8 0]) (by kernel_rfl) ?_
   simp only [lay]
   have has39 := hg10.to hb19
   refine lz (ow_st 68 (.tmp 2) (.tmp 29) g8 #[.int .u8 0, .int .u8 0, .int .u8 0, .int .u8 0, .int .u8 0, .int .u8 0, .int .u8 0, .int .u8 0] _ _ rfl (by exact rfl) (by exact rfl) has39 (by kernel_rfl) rfl (by kernel_rfl) ?_)
   intro W35 hg36 bs37 hb38
   have z40 := hb38.size
   simp only [lay]
   refine lv (.bool false) (by exact xa) ?_
   simp only [lay]
   refine lv (.int .i64 0) (by exact xa) ?_
   simp only [lay]
   refine wn ?_
   refine wp_ret ?_
   try simp only [Exit.then]
   have qp : d.part = true := by unfold D4.part; simp [*]; try omega
   have e : tells17 d = (([0, 0, 0, 0], [0, 0, 0, 0]), false, 0) := by
    unfold tells17
    simp only [hM, hPE, hEr]
    simp only [qp, true_or, if_true]
    repeat (first | rw [if_pos (by first | assumption | omega | exact ne_true_of_eq_false (by assumption))] | rw [if_neg (by first | assumption | omega | exact ne_true_of_eq_false (by assumption))])
   have b41 := bt b16 hb19
   have l42 := lq hb6 ge11
   have b43 := b41.trans (hb38.mono l42)
   exact bodyPost_ret (res_cell3 Try.results27 rfl (hg36.load (P := Try.prog) 68 Try.underlying68 rfl (by kernel_rfl)) rfl rfl) rfl ⟨by rw [e]; rfl, b43⟩
  replace q34 := eq_false_of_ne_true q34
  rw [q34]
  refine lv (.pointer (some ⟨g1, 6, none⟩)) (by exact xf 6 0 Try.underlying27) ?_
  simp only [lay]
  refine lv (.int .u8 d.proto) (by exact xc Try.underlying5 (has23.cell 6 rfl)) ?_
  simp only [lay]
  by_cases q44 : d.proto = 1
  case pos =>
   refine lv (.bool false) (by exact neq_int_eq (by exact rfl) (by exact rfl) (by exact rfl) (by first | assumption | omega)) ?_
   simp only [lay]
   refine lv (.bool false) (by exact xp (b := false)) ?_
   simp only [lay]
   refine wn ?_
   refine wp_cond_false (by exact rfl) ?_
   refine wp_skip ?_
   change Code.wp _ _ _ _ _
   refine wp_sr ?_
   refine lv (.pointer (some ⟨g1, 16, none⟩)) (by exact xf 16 0 Try.underlying27) ?_
   simp only [lay]
   refine lv (.slice p.bA d.bl.length p.bc) (by exact xc Try.underlying25 (has23.cell 16 rfl)) ?_
   simp only [lay]
   have b45 := bt b16 hb19
   have by46 := yb.to b45
   refine lz (ow_call (fun v w' => (∃ A' c', v = .tuple #[.agg (M.cells A' c'), .int .i64 PE] ∧ M.ok ∧ OwnB w' W18.heap.size (.slice A' M.bl.length c') M.bl) ∧ Below W18.heap.size W18 w') (by exact xk Try.func21) ((rparse4m_any _ _ _ _ W18 by46).mono (by rintro e w' ⟨⟨A', c', rfl, hk, ho⟩, hb⟩; rw [hM] at hk ho; exact ⟨_, rfl, ⟨A', c', by rw [hM, hPE], hk, ho⟩, hb⟩)) ?_)
   rintro _ W47 ⟨⟨A49, c50, rfl, hk51, hO52⟩, hb48⟩
   have z53 := hb48.size
   simp only [lay]
   refine lv (.tuple #[.agg (M.cells A49 c50), .int .i64 PE]) (by exact xm) ?_
   simp only [lay]
   refine lv (.agg (M.cells A49 c50)) (by exact xe) ?_
   simp only [lay]
   refine lv (.int .i64 PE) (by exact xe) ?_
   simp only [lay]
   refine lz (oa #[.int .u8 0, .int .u8 0, .int .u32 0, .slice none 0 0] ?_)
   intro g54 W55 hg56 ge57 sz58 hb59
   have z60 := hb59.size
   simp only [lay]
   refine lz (ow_st 46 (.tmp 6) (.tmp 34) g54 (M.cells A49 c50) _ _ rfl (by exact rfl) (by exact rfl) hg56 (by kernel_rfl) rfl (by kernel_rfl) ?_)
   intro W61 hg62 bs63 hb64
   have z65 := hb64.size
   simp only [lay]
   refine lv (.int .i64 PE) (by exact xa) ?_
   simp only [lay]
   refine wn ?_
   refine wp_seq ?_
   refine wp_sr ?_
   refine lv (.int .i64 PE) (by exact xm) ?_
   simp only [lay]
   by_cases q66 : PE = 0
   case pos =>
    refine lv (.bool false) (by exact neq_int_eq (by exact rfl) (by exact rfl) (by exact rfl) (by first | assumption | omega)) ?_
    simp only [lay]
    refine lv (.bool false) (by exact xm) ?_
    simp only [lay]
    refine lv (.pointer (some ⟨g54, 0, none⟩)) (by exact xf 0 0 Try.underlying46) ?_
    simp only [lay]
    refine lv (.int .u8 M.ty) (by exact xc Try.underlying5 (hg62.cell 0 rfl)) ?_
    simp only [lay]
    by_cases q67 : M.ty = 3
    case pos =>
     refine lv (.bool false) (by exact neq_int_eq (by exact rfl) (by exact rfl) (by exact rfl) (by first | assumption | omega)) ?_
     simp only [lay]
     refine lv (.bool false) (by exact xm) ?_
     simp only [lay]
     refine lzn ?_
     simp only [lay]
     refine lzn ?_
     simp only [lay]
     refine lzn ?_
     simp only [lay]
     refine lv (.bool false) (by exact xp (b := false)) ?_
     simp only [lay]
     refine lv (.bool false) (by exact xm) ?_
     simp only [lay]
     refine lzn ?_
     simp only [lay]
     refine lzn ?_
     simp only [lay]
     refine lzn ?_
     simp only [lay]
     refine lv (.bool false) (by exact xp (b := false)) ?_
     simp only [lay]
     refine lv (.bool false) (by exact xp (b := false)) ?_
     simp only [lay]
     refine wn ?_
     refine wp_cond_false (by exact rfl) ?_
     refine wp_skip ?_
     change Code.wp _ _ _ _ _
     refine wp_sr ?_
     refine lv (.pointer (some ⟨g54, 3, none⟩)) (by exact xf 3 0 Try.underlying46) ?_
     simp only [lay]
     refine lv (.slice A49 M.bl.length c50) (by exact xc Try.underlying25 (hg62.cell 3 rfl)) ?_
     simp only [lay]
     have l68 : W47.heap.size ≤ g54 := Nat.le_of_eq ge57.symm
     have b69 := hb59.trans (hb64.mono l68)
     have own70 := hO52.to b69
     refine lz (ow_call (fun v w' => (∃ p, v = .tuple #[.agg (D.cells p), .int .i64 (pat4 E), .int .i64 E] ∧ Own4 w' W61.heap.size D p) ∧ Below W61.heap.size W61 w') (by exact xk Try.func56) (by have := rpart_x (own_byS own70); rw [hD, hEr] at this; exact this) ?_)
     rintro _ W71 ⟨⟨p73, rfl, ho74⟩, hb72⟩
     have z75 := hb72.size
     have hr76 := ho74.rd
     have hO77 := ho74.opt
     have hO78 := ho74.body
     simp only [lay]
     refine lv (.tuple #[.agg (D.cells p73), .int .i64 (pat4 E), .int .i64 E]) (by exact xm) ?_
     simp only [lay]
     refine lv (.agg (D.cells p73)) (by exact xe) ?_
     simp only [lay]
     refine lv (.int .i64 (pat4 E)) (by exact xe) ?_
     simp only [lay]
     refine lv (.int .i64 E) (by exact xe) ?_
     simp only [lay]
     refine lz (oa #[.int .u8 0, .int .u16 0, .bool false, .bool false, .int .i64 0, .int .u8 0, .int .u8 0, .int .u8 0, .int .u8 0, .int .u8 0, .int .u8 0, .int .u8 0, .int .u8 0, .int .u8 0, .int .u8 0, .slice none 0 0, .slice none 0 0] ?_)
     intro g79 W80 hg81 ge82 sz83 hb84
     have z85 := hb84.size
     simp only [lay]
     refine lz (ow_st 27 (.tmp 8) (.tmp 58) g79 (D.cells p73) _ _ rfl (by exact rfl) (by exact rfl) hg81 (by kernel_rfl) rfl (by kernel_rfl) ?_)
     intro W86 hg87 bs88 hb89
     have z90 := hb89.size
     simp only [lay]
     refine lv (.int .i64 (pat4 E)) (by exact xa) ?_
     simp only [lay]
     refine lv (.int .i64 E) (by exact xa) ?_
     simp only [lay]
     refine wn ?_
     refine wp_seq ?_
     refine wp_sr ?_
     refine lv (.int .i64 E) (by exact xm) ?_
     simp only [lay]
     by_cases q91 : E = 0
     case pos =>
      refine lv (.bool false) (by exact neq_int_eq (by exact rfl) (by exact rfl) (by exact rfl) (by first | assumption | omega)) ?_
      simp only [lay]
      refine wn ?_
      refine wp_cond_false (by exact rfl) ?_
      refine wp_skip ?_
      change Code.wp _ _ _ _ _
      refine wp_sr ?_
      refine lv (.pointer (some ⟨g79, 7, none⟩)) (by exact xf 7 3 Try.underlying27) ?_
      simp only [lay]
      refine lv (.agg #[.int .u8 D.s0, .int .u8 D.s1, .int .u8 D.s2, .int .u8 D.s3]) (by exact ex_loadAt (by exact rfl) (by exact rfl) (hg87.loadIn (P := Try.prog) 7 [.int .u8 D.s0, .int .u8 D.s1, .int .u8 D.s2, .int .u8 D.s3] (by kernel_rfl) 24 Try.underlying24 rfl (by kernel_rfl))) ?_
      simp only [lay]
      refine lv (.pointer (some ⟨g79, 11, none⟩)) (by exact xf 11 3 Try.underlying27) ?_
      simp only [lay]
      refine lv (.agg #[.int .u8 D.d0, .int .u8 D.d1, .int .u8 D.d2, .int .u8 D.d3]) (by exact ex_loadAt (by exact rfl) (by exact rfl) (hg87.loadIn (P := Try.prog) 11 [.int .u8 D.d0, .int .u8 D.d1, .int .u8 D.d2, .int .u8 D.d3] (by kernel_rfl) 24 Try.underlying24 rfl (by kernel_rfl))) ?_
      simp only [lay]
      refine lv (.agg #[.int .u8 D.s0, .int .u8 D.s1, .int .u8 D.s2, .int .u8 D.s3, .int .u8 D.d0, .int .u8 D.d1, .int .u8 D.d2, .int .u8 D.d3]) (by kernel_rfl) ?_
      simp only [lay]
      have b96 := bt hb19 hb48
      have b97 := bt b96 hb59
      have l98 := lq b96 ge57
      have b99 := b97.trans (hb64.mono l98)
      have b100 := bt b99 hb72
      have b101 := bt b100 hb84
      have l102 := lq b100 ge82
      have b103 := b101.trans (hb89.mono l102)
      have has104 := hg10.to b103
      refine lz (ow_st 68 (.tmp 2) (.tmp 68) g8 #[.int .u8 D.s0, .int .u8 D.s1, .int .u8 D.s2, .int .u8 D.s3, .int .u8 D.d0, .int .u8 D.d1, .int .u8 D.d2, .int .u8 D.d3] _ _ rfl (by exact rfl) (by exact rfl) has104 (by kernel_rfl) rfl (by kernel_rfl) ?_)
      intro W92 hg93 bs94 hb95
      have b105 := bt b69 hb72
      have b106 := bt b105 hb84
      have l107 := lq b105 ge82
      have b108 := b106.trans (hb89.mono l107)
      have own109 := hO52.to b108
      have b110 := bt hb72 hb84
      have l111 := lq hb72 ge82
      have b112 := b110.trans (hb89.mono l111)
      have has113 := hg62.to b112
      have l114 : W71.heap.size ≤ g79 := Nat.le_of_eq ge82.symm
      have b115 := hb84.trans (hb89.mono l114)
      have own116 := hO77.to b115
      have own117 := hO78.to b115
      have z118 := hb95.size
      have own119 := own109.but6 bs94 (by omega)
      have has120 := has113.but6 bs94 (by omega)
      have own121 := own116.but6 bs94 (by omega)
      have own122 := own117.but6 bs94 (by omega)
      have has123 := hg87.but6 bs94 (by omega)
      simp only [lay]
      refine lv (.bool true) (by exact xa) ?_
      simp only [lay]
      refine lv (.int .i64 0) (by exact xa) ?_
      simp only [lay]
      refine wn ?_
      refine wp_ret ?_
      try simp only [Exit.then]
      have qp : d.part = false := by unfold D4.part; simp [*]; try omega
      have e : tells17 d = ((D.src, D.dst), true, 0) := by
       unfold tells17
       simp only [hM, hPE, hEr]
       simp only [qp, Bool.false_eq_true, false_or]
       repeat (first | rw [if_pos (by first | assumption | omega | exact ne_true_of_eq_false (by assumption))] | rw [if_neg (by first | assumption | omega | exact ne_true_of_eq_false (by assumption))])
       rw [← hD, got4, if_pos (hEr.trans (by assumption))]
      have b124 := bt b45 hb48
      have b125 := bt b124 hb59
      have l126 := lq b124 ge57
      have b127 := b125.trans (hb64.mono l126)
      have b128 := bt b127 hb72
      have b129 := bt b128 hb84
      have l130 := lq b128 ge82
      have b131 := b129.trans (hb89.mono l130)
      have l132 := lq hb6 ge11
      have b133 := b131.trans (hb95.mono l132)
      exact bodyPost_ret (res_cell3 Try.results27 rfl (hg93.load (P := Try.prog) 68 Try.underlying68 rfl (by kernel_rfl)) rfl rfl) rfl ⟨by rw [e]; rfl, b133⟩
     refine lv (.bool true) (by exact neq_int_ne (by exact rfl) (by exact rfl) (by exact rfl) (by first | assumption | omega)) ?_
     simp only [lay]
     refine wn ?_
     refine wp_cond_true (by exact rfl) ?_
     refine wp_sr ?_
     refine lv (.agg #[.int .u8 0, .int .u8 0, .int .u8 0, .int .u8 0, .int .u8 0, .int .u8 0, .int .u8 0, .int .u8 0]) (by kernel_rfl) ?_
     simp only [lay]
     have b138 := bt hb19 hb48
     have b139 := bt b138 hb59
     have l140 := lq b138 ge57
     have b141 := b139.trans (hb64.mono l140)
     have b142 := bt b141 hb72
     have b143 := bt b142 hb84
     have l144 := lq b142 ge82
     have b145 := b143.trans (hb89.mono l144)
     have has146 := hg10.to b145
     refine lz (ow_st 68 (.tmp 2) (.tmp 63) g8 #[.int .u8 0, .int .u8 0, .int .u8 0, .int .u8 0, .int .u8 0, .int .u8 0, .int .u8 0, .int .u8 0] _ _ rfl (by exact rfl) (by exact rfl) has146 (by kernel_rfl) rfl (by kernel_rfl) ?_)
     intro W134 hg135 bs136 hb137
     have b147 := bt b69 hb72
     have b148 := bt b147 hb84
     have l149 := lq b147 ge82
     have b150 := b148.trans (hb89.mono l149)
     have own151 := hO52.to b150
     have b152 := bt hb72 hb84
     have l153 := lq hb72 ge82
     have b154 := b152.trans (hb89.mono l153)
     have has155 := hg62.to b154
     have l156 : W71.heap.size ≤ g79 := Nat.le_of_eq ge82.symm
     have b157 := hb84.trans (hb89.mono l156)
     have own158 := hO77.to b157
     have own159 := hO78.to b157
     have z160 := hb137.size
     have own161 := own151.but6 bs136 (by omega)
     have has162 := has155.but6 bs136 (by omega)
     have own163 := own158.but6 bs136 (by omega)
     have own164 := own159.but6 bs136 (by omega)
     have has165 := hg87.but6 bs136 (by omega)
     simp only [lay]
     refine lv (.bool false) (by exact xa) ?_
     simp only [lay]
     refine lv (.int .i64 0) (by exact xa) ?_
     simp only [lay]
     refine wn ?_
     refine wp_ret ?_
     try simp only [Exit.then]
     have qp : d.part = false := by unfold D4.part; simp [*]; try omega
     have e : tells17 d = (([0, 0, 0, 0], [0, 0, 0, 0]), false, 0) := by
      unfold tells17
      simp only [hM, hPE, hEr]
      simp only [qp, Bool.false_eq_true, false_or]
      repeat (first | rw [if_pos (by first | assumption | omega | exact ne_true_of_eq_false (by assumption))] | rw [if_neg (by first | assumption | omega | exact ne_true_of_eq_false (by assumption))])
     have b166 := bt b45 hb48
     have b167 := bt b166 hb59
     have l168 := lq b166 ge57
     have b169 := b167.trans (hb64.mono l168)
     have b170 := bt b169 hb72
     have b171 := bt b170 hb84
     have l172 := lq b170 ge82
     have b173 := b171.trans (hb89.mono l172)
     have l174 := lq hb6 ge11
     have b175 := b173.trans (hb137.mono l174)
     exact bodyPost_ret (res_cell3 Try.results27 rfl (hg135.load (P := Try.prog) 68 Try.underlying68 rfl (by kernel_rfl)) rfl rfl) rfl ⟨by rw [e]; rfl, b175⟩
    refine lv (.bool true) (by exact neq_int_ne (by exact rfl) (by exact rfl) (by exact rfl) (by first | assumption | omega)) ?_
    simp only [lay]
    refine lv (.bool true) (by exact xm) ?_
    simp only [lay]
    refine lv (.pointer (some ⟨g54, 0, none⟩)) (by exact xf 0 0 Try.underlying46) ?_
    simp only [lay]
    refine lv (.int .u8 M.ty) (by exact xc Try.underlying5 (hg62.cell 0 rfl)) ?_
    simp only [lay]
    by_cases q176 : M.ty = 11
    case pos =>
     refine lv (.bool false) (by exact neq_int_eq (by exact rfl) (by exact rfl) (by exact rfl) (by first | assumption | omega)) ?_
     simp only [lay]
     refine lv (.bool false) (by exact xp (b := true)) ?_
     simp only [lay]
     refine lv (.bool false) (by exact xm) ?_
     simp only [lay]
     refine lzn ?_
     simp only [lay]
     refine lzn ?_
     simp only [lay]
     refine lzn ?_
     simp only [lay]
     refine lv (.bool false) (by exact xp (b := false)) ?_
     simp only [lay]
     refine lv (.bool false) (by exact xp (b := false)) ?_
     simp only [lay]
     refine wn ?_
     refine wp_cond_false (by exact rfl) ?_
     refine wp_skip ?_
     change Code.wp _ _ _ _ _
     refine wp_sr ?_
     refine lv (.pointer (some ⟨g54, 3, none⟩)) (by exact xf 3 0 Try.underlying46) ?_
     simp only [lay]
     refine lv (.slice A49 M.bl.length c50) (by exact xc Try.underlying25 (hg62.cell 3 rfl)) ?_
     simp only [lay]
     have l177 : W47.heap.size ≤ g54 := Nat.le_of_eq ge57.symm
     have b178 := hb59.trans (hb64.mono l177)
     have own179 := hO52.to b178
     refine lz (ow_call (fun v w' => (∃ p, v = .tuple #[.agg (D.cells p), .int .i64 (pat4 E), .int .i64 E] ∧ Own4 w' W61.heap.size D p) ∧ Below W61.heap.size W61 w') (by exact xk Try.func56) (by have := rpart_x (own_byS own179); rw [hD, hEr] at this; exact this) ?_)
     rintro _ W180 ⟨⟨p182, rfl, ho183⟩, hb181⟩
     have z184 := hb181.size
     have hr185 := ho183.rd
     have hO186 := ho183.opt
     have hO187 := ho183.body
     simp only [lay]
     refine lv (.tuple #[.agg (D.cells p182), .int .i64 (pat4 E), .int .i64 E]) (by exact xm) ?_
     simp only [lay]
     refine lv (.agg (D.cells p182)) (by exact xe) ?_
     simp only [lay]
     refine lv (.int .i64 (pat4 E)) (by exact xe) ?_
     simp only [lay]
     refine lv (.int .i64 E) (by exact xe) ?_
     simp only [lay]
     refine lz (oa #[.int .u8 0, .int .u16 0, .bool false, .bool false, .int .i64 0, .int .u8 0, .int .u8 0, .int .u8 0, .int .u8 0, .int .u8 0, .int .u8 0, .int .u8 0, .int .u8 0, .int .u8 0, .int .u8 0, .slice none 0 0, .slice none 0 0] ?_)
     intro g188 W189 hg190 ge191 sz192 hb193
     have z194 := hb193.size
     simp only [lay]
     refine lz (ow_st 27 (.tmp 8) (.tmp 58) g188 (D.cells p182) _ _ rfl (by exact rfl) (by exact rfl) hg190 (by kernel_rfl) rfl (by kernel_rfl) ?_)
     intro W195 hg196 bs197 hb198
     have z199 := hb198.size
     simp only [lay]
     refine lv (.int .i64 (pat4 E)) (by exact xa) ?_
     simp only [lay]
     refine lv (.int .i64 E) (by exact xa) ?_
     simp only [lay]
     refine wn ?_
     refine wp_seq ?_
     refine wp_sr ?_
     refine lv (.int .i64 E) (by exact xm) ?_
     simp only [lay]
     by_cases q200 : E = 0
     case pos =>
      refine lv (.bool false) (by exact neq_int_eq (by exact rfl) (by exact rfl) (by exact rfl) (by first | assumption | omega)) ?_
      simp only [lay]
      refine wn ?_
      refine wp_cond_false (by exact rfl) ?_
      refine wp_skip ?_
      change Code.wp _ _ _ _ _
      refine wp_sr ?_
      refine lv (.pointer (some ⟨g188, 7, none⟩)) (by exact xf 7 3 Try.underlying27) ?_
      simp only [lay]
      refine lv (.agg #[.int .u8 D.s0, .int .u8 D.s1, .int .u8 D.s2, .int .u8 D.s3]) (by exact ex_loadAt (by exact rfl) (by exact rfl) (hg196.loadIn (P := Try.prog) 7 [.int .u8 D.s0, .int .u8 D.s1, .int .u8 D.s2, .int .u8 D.s3] (by kernel_rfl) 24 Try.underlying24 rfl (by kernel_rfl))) ?_
      simp only [lay]
      refine lv (.pointer (some ⟨g188, 11, none⟩)) (by exact xf 11 3 Try.underlying27) ?_
      simp only [lay]
      refine lv (.agg #[.int .u8 D.d0, .int .u8 D.d1, .int .u8 D.d2, .int .u8 D.d3]) (by exact ex_loadAt (by exact rfl) (by exact rfl) (hg196.loadIn (P := Try.prog) 11 [.int .u8 D.d0, .int .u8 D.d1, .int .u8 D.d2, .int .u8 D.d3] (by kernel_rfl) 24 Try.underlying24 rfl (by kernel_rfl))) ?_
      simp only [lay]
      refine lv (.agg #[.int .u8 D.s0, .int .u8 D.s1, .int .u8 D.s2, .int .u8 D.s3, .int .u8 D.d0, .int .u8 D.d1, .int .u8 D.d2, .int .u8 D.d3]) (by kernel_rfl) ?_
      simp only [lay]
      have b205 := bt hb19 hb48
      have b206 := bt b205 hb59
      have l207 := lq b205 ge57
      have b208 := b206.trans (hb64.mono l207)
      have b209 := bt b208 hb181
      have b210 := bt b209 hb193
      have l211 := lq b209 ge191
      have b212 := b210.trans (hb198.mono l211)
      have has213 := hg10.to b212
      refine lz (ow_st 68 (.tmp 2) (.tmp 68) g8 #[.int .u8 D.s0, .int .u8 D.s1, .int .u8 D.s2, .int .u8 D.s3, .int .u8 D.d0, .int .u8 D.d1, .int .u8 D.d2, .int .u8 D.d3] _ _ rfl (by exact rfl) (by exact rfl) has213 (by kernel_rfl) rfl (by kernel_rfl) ?_)
      intro W201 hg202 bs203 hb204
      have b214 := bt b178 hb181
      have b215 := bt b214 hb193
      have l216 := lq b214 ge191
      have b217 := b215.trans (hb198.mono l216)
      have own218 := hO52.to b217
      have b219 := bt hb181 hb193
      have l220 := lq hb181 ge191
      have b221 := b219.trans (hb198.mono l220)
      have has222 := hg62.to b221
      have l223 : W180.heap.size ≤ g188 := Nat.le_of_eq ge191.symm
      have b224 := hb193.trans (hb198.mono l223)
      have own225 := hO186.to b224
      have own226 := hO187.to b224
      have z227 := hb204.size
      have own228 := own218.but6 bs203 (by omega)
      have has229 := has222.but6 bs203 (by omega)
      have own230 := own225.but6 bs203 (by omega)
      have own231 := own226.but6 bs203 (by omega)
      have has232 := hg196.but6 bs203 (by omega)
      simp only [lay]
      refine lv (.bool true) (by exact xa) ?_
      simp only [lay]
      refine lv (.int .i64 0) (by exact xa) ?_
      simp only [lay]
      refine wn ?_
      refine wp_ret ?_
      try simp only [Exit.then]
      have qp : d.part = false := by unfold D4.part; simp [*]; try omega
      have e : tells17 d = ((D.src, D.dst), true, 0) := by
       unfold tells17
       simp only [hM, hPE, hEr]
       simp only [qp, Bool.false_eq_true, false_or]
       repeat (first | rw [if_pos (by first | assumption | omega | exact ne_true_of_eq_false (by assumption))] | rw [if_neg (by first | assumption | omega | exact ne_true_of_eq_false (by assumption))])
       rw [← hD, got4, if_pos (hEr.trans (by assumption))]
      have b233 := bt b45 hb48
      have b234 := bt b233 hb59
      have l235 := lq b233 ge57
      have b236 := b234.trans (hb64.mono l235)
      have b237 := bt b236 hb181
      have b238 := bt b237 hb193
      have l239 := lq b237 ge191
      have b240 := b238.trans (hb198.mono l239)
      have l241 := lq hb6 ge11
      have b242 := b240.trans (hb204.mono l241)
      exact bodyPost_ret (res_cell3 Try.results27 rfl (hg202.load (P := Try.prog) 68 Try.underlying68 rfl (by kernel_rfl)) rfl rfl) rfl ⟨by rw [e]; rfl, b242⟩
     refine lv (.bool true) (by exact neq_int_ne (by exact rfl) (by exact rfl) (by exact rfl) (by first | assumption | omega)) ?_
     simp only [lay]
     refine wn ?_
     refine wp_cond_true (by exact rfl) ?_
     refine wp_sr ?_
     refine lv (.agg #[.int .u8 0, .int .u8 0, .int .u8 0, .int .u8 0, .int .u8 0, .int .u8 0, .int .u8 0, .int .u8 0]) (by kernel_rfl) ?_
     simp only [lay]
     have b247 := bt hb19 hb48
     have b248 := bt b247 hb59
     have l249 := lq b247 ge57
     have b250 := b248.trans (hb64.mono l249)
     have b251 := bt b250 hb181
     have b252 := bt b251 hb193
     have l253 := lq b251 ge191
     have b254 := b252.trans (hb198.mono l253)
     have has255 := hg10.to b254
     refine lz (ow_st 68 (.tmp 2) (.tmp 63) g8 #[.int .u8 0, .int .u8 0, .int .u8 0, .int .u8 0, .int .u8 0, .int .u8 0, .int .u8 0, .int .u8 0] _ _ rfl (by exact rfl) (by exact rfl) has255 (by kernel_rfl) rfl (by kernel_rfl) ?_)
     intro W243 hg244 bs245 hb246
     have b256 := bt b178 hb181
     have b257 := bt b256 hb193
     have l258 := lq b256 ge191
     have b259 := b257.trans (hb198.mono l258)
     have own260 := hO52.to b259
     have b261 := bt hb181 hb193
     have l262 := lq hb181 ge191
     have b263 := b261.trans (hb198.mono l262)
     have has264 := hg62.to b263
     have l265 : W180.heap.size ≤ g188 := Nat.le_of_eq ge191.symm
     have b266 := hb193.trans (hb198.mono l265)
     have own267 := hO186.to b266
     have own268 := hO187.to b266
     have z269 := hb246.size
     have own270 := own260.but6 bs245 (by omega)
     have has271 := has264.but6 bs245 (by omega)
     have own272 := own267.but6 bs245 (by omega)
     have own273 := own268.but6 bs245 (by omega)
     have has274 := hg196.but6 bs245 (by omega)
     simp only [lay]
     refine lv (.bool false) (by exact xa) ?_
     simp only [lay]
     refine lv (.int .i64 0) (by exact xa) ?_
     simp only [lay]
     refine wn ?_
     refine wp_ret ?_
     try simp only [Exit.then]
     have qp : d.part = false := by unfold D4.part; simp [*]; try omega
     have e : tells17 d = (([0, 0, 0, 0], [0, 0, 0, 0]), false, 0) := by
      unfold tells17
      simp only [hM, hPE, hEr]
      simp only [qp, Bool.false_eq_true, false_or]
      repeat (first | rw [if_pos (by first | assumption | omega | exact ne_true_of_eq_false (by assumption))] | rw [if_neg (by first | assumption | omega | exact ne_true_of_eq_false (by assumption))])
     have b275 := bt b45 hb48
     have b276 := bt b275 hb59
     have l277 := lq b275 ge57
     have b278 := b276.trans (hb64.mono l277)
     have b279 := bt b278 hb181
     have b280 := bt b279 hb193
     have l281 := lq b279 ge191
     have b282 := b280.trans (hb198.mono l281)
     have l283 := lq hb6 ge11
     have b284 := b282.trans (hb246.mono l283)
     exact bodyPost_ret (res_cell3 Try.results27 rfl (hg244.load (P := Try.prog) 68 Try.underlying68 rfl (by kernel_rfl)) rfl rfl) rfl ⟨by rw [e]; rfl, b284⟩
    refine lv (.bool true) (by exact neq_int_ne (by exact rfl) (by exact rfl) (by exact rfl) (by first | assumption | omega)) ?_
    simp only [lay]
    refine lv (.bool true) (by exact xp (b := true)) ?_
    simp only [lay]
    refine lv (.bool true) (by exact xm) ?_
    simp only [lay]
    refine lv (.pointer (some ⟨g54, 0, none⟩)) (by exact xf 0 0 Try.underlying46) ?_
    simp only [lay]
    refine lv (.int .u8 M.ty) (by exact xc Try.underlying5 (hg62.cell 0 rfl)) ?_
    simp only [lay]
    by_cases q285 : M.ty = 12
    case pos =>
     refine lv (.bool false) (by exact neq_int_eq (by exact rfl) (by exact rfl) (by exact rfl) (by first | assumption | omega)) ?_
     simp only [lay]
     refine lv (.bool false) (by exact xp (b := true)) ?_
     simp only [lay]
     refine lv (.bool false) (by exact xp (b := false)) ?_
     simp only [lay]
     refine wn ?_
     refine wp_cond_false (by exact rfl) ?_
     refine wp_skip ?_
     change Code.wp _ _ _ _ _
     refine wp_sr ?_
     refine lv (.pointer (some ⟨g54, 3, none⟩)) (by exact xf 3 0 Try.underlying46) ?_
     simp only [lay]
     refine lv (.slice A49 M.bl.length c50) (by exact xc Try.underlying25 (hg62.cell 3 rfl)) ?_
     simp only [lay]
     have l286 : W47.heap.size ≤ g54 := Nat.le_of_eq ge57.symm
     have b287 := hb59.trans (hb64.mono l286)
     have own288 := hO52.to b287
     refine lz (ow_call (fun v w' => (∃ p, v = .tuple #[.agg (D.cells p), .int .i64 (pat4 E), .int .i64 E] ∧ Own4 w' W61.heap.size D p) ∧ Below W61.heap.size W61 w') (by exact xk Try.func56) (by have := rpart_x (own_byS own288); rw [hD, hEr] at this; exact this) ?_)
     rintro _ W289 ⟨⟨p291, rfl, ho292⟩, hb290⟩
     have z293 := hb290.size
     have hr294 := ho292.rd
     have hO295 := ho292.opt
     have hO296 := ho292.body
     simp only [lay]
     refine lv (.tuple #[.agg (D.cells p291), .int .i64 (pat4 E), .int .i64 E]) (by exact xm) ?_
     simp only [lay]
     refine lv (.agg (D.cells p291)) (by exact xe) ?_
     simp only [lay]
     refine lv (.int .i64 (pat4 E)) (by exact xe) ?_
     simp only [lay]
     refine lv (.int .i64 E) (by exact xe) ?_
     simp only [lay]
     refine lz (oa #[.int .u8 0, .int .u16 0, .bool false, .bool false, .int .i64 0, .int .u8 0, .int .u8 0, .int .u8 0, .int .u8 0, .int .u8 0, .int .u8 0, .int .u8 0, .int .u8 0, .int .u8 0, .int .u8 0, .slice none 0 0, .slice none 0 0] ?_)
     intro g297 W298 hg299 ge300 sz301 hb302
     have z303 := hb302.size
     simp only [lay]
     refine lz (ow_st 27 (.tmp 8) (.tmp 58) g297 (D.cells p291) _ _ rfl (by exact rfl) (by exact rfl) hg299 (by kernel_rfl) rfl (by kernel_rfl) ?_)
     intro W304 hg305 bs306 hb307
     have z308 := hb307.size
     simp only [lay]
     refine lv (.int .i64 (pat4 E)) (by exact xa) ?_
     simp only [lay]
     refine lv (.int .i64 E) (by exact xa) ?_
     simp only [lay]
     refine wn ?_
     refine wp_seq ?_
     refine wp_sr ?_
     refine lv (.int .i64 E) (by exact xm) ?_
     simp only [lay]
     by_cases q309 : E = 0
     case pos =>
      refine lv (.bool false) (by exact neq_int_eq (by exact rfl) (by exact rfl) (by exact rfl) (by first | assumption | omega)) ?_
      simp only [lay]
      refine wn ?_
      refine wp_cond_false (by exact rfl) ?_
      refine wp_skip ?_
      change Code.wp _ _ _ _ _
      refine wp_sr ?_
      refine lv (.pointer (some ⟨g297, 7, none⟩)) (by exact xf 7 3 Try.underlying27) ?_
      simp only [lay]
      refine lv (.agg #[.int .u8 D.s0, .int .u8 D.s1, .int .u8 D.s2, .int .u8 D.s3]) (by exact ex_loadAt (by exact rfl) (by exact rfl) (hg305.loadIn (P := Try.prog) 7 [.int .u8 D.s0, .int .u8 D.s1, .int .u8 D.s2, .int .u8 D.s3] (by kernel_rfl) 24 Try.underlying24 rfl (by kernel_rfl))) ?_
      simp only [lay]
      refine lv (.pointer (some ⟨g297, 11, none⟩)) (by exact xf 11 3 Try.underlying27) ?_
      simp only [lay]
      refine lv (.agg #[.int .u8 D.d0, .int .u8 D.d1, .int .u8 D.d2, .int .u8 D.d3]) (by exact ex_loadAt (by exact rfl) (by exact rfl) (hg305.loadIn (P := Try.prog) 11 [.int .u8 D.d0, .int .u8 D.d1, .int .u8 D.d2, .int .u8 D.d3] (by kernel_rfl) 24 Try.underlying24 rfl (by kernel_rfl))) ?_
      simp only [lay]
      refine lv (.agg #[.int .u8 D.s0, .int .u8 D.s1, .int .u8 D.s2, .int .u8 D.s3, .int .u8 D.d0, .int .u8 D.d1, .int .u8 D.d2, .int .u8 D.d3]) (by kernel_rfl) ?_
      simp only [lay]
      have b314 := bt hb19 hb48
      have b315 := bt b314 hb59
      have l316 := lq b314 ge57
      have b317 := b315.trans (hb64.mono l316)
      have b318 := bt b317 hb290
      have b319 := bt b318 hb302
      have l320 := lq b318 ge300
      have b321 := b319.trans (hb307.mono l320)
      have has322 := hg10.to b321
      refine lz (ow_st 68 (.tmp 2) (.tmp 68) g8 #[.int .u8 D.s0, .int .u8 D.s1, .int .u8 D.s2, .int .u8 D.s3, .int .u8 D.d0, .int .u8 D.d1, .int .u8 D.d2, .int .u8 D.d3] _ _ rfl (by exact rfl) (by exact rfl) has322 (by kernel_rfl) rfl (by kernel_rfl) ?_)
      intro W310 hg311 bs312 hb313
      have b323 := bt b287 hb290
      have b324 := bt b323 hb302
      have l325 := lq b323 ge300
      have b326 := b324.trans (hb307.mono l325)
      have own327 := hO52.to b326
      have b328 := bt hb290 hb302
      have l329 := lq hb290 ge300
      have b330 := b328.trans (hb307.mono l329)
      have has331 := hg62.to b330
      have l332 : W289.heap.size ≤ g297 := Nat.le_of_eq ge300.symm
      have b333 := hb302.trans (hb307.mono l332)
      have own334 := hO295.to b333
      have own335 := hO296.to b333
      have z336 := hb313.size
      have own337 := own327.but6 bs312 (by omega)
      have has338 := has331.but6 bs312 (by omega)
      have own339 := own334.but6 bs312 (by omega)
      have own340 := own335.but6 bs312 (by omega)
      have has341 := hg305.but6 bs312 (by omega)
      simp only [lay]
      refine lv (.bool true) (by exact xa) ?_
      simp only [lay]
      refine lv (.int .i64 0) (by exact xa) ?_
      simp only [lay]
      refine wn ?_
      refine wp_ret ?_
      try simp only [Exit.then]
      have qp : d.part = false := by unfold D4.part; simp [*]; try omega
      have e : tells17 d = ((D.src, D.dst), true, 0) := by
       unfold tells17
       simp only [hM, hPE, hEr]
       simp only [qp, Bool.false_eq_true, false_or]
       repeat (first | rw [if_pos (by first | assumption | omega | exact ne_true_of_eq_false (by assumption))] | rw [if_neg (by first | assumption | omega | exact ne_true_of_eq_false (by assumption))])
       rw [← hD, got4, if_pos (hEr.trans (by assumption))]
      have b342 := bt b45 hb48
      have b343 := bt b342 hb59
      have l344 := lq b342 ge57
      have b345 := b343.trans (hb64.mono l344)
      have b346 := bt b345 hb290
      have b347 := bt b346 hb302
      have l348 := lq b346 ge300
      have b349 := b347.trans (hb307.mono l348)
      have l350 := lq hb6 ge11
      have b351 := b349.trans (hb313.mono l350)
      exact bodyPost_ret (res_cell3 Try.results27 rfl (hg311.load (P := Try.prog) 68 Try.underlying68 rfl (by kernel_rfl)) rfl rfl) rfl ⟨by rw [e]; rfl, b351⟩
     refine lv (.bool true) (by exact neq_int_ne (by exact rfl) (by exact rfl) (by exact rfl) (by first | assumption | omega)) ?_
     simp only [lay]
     refine wn ?_
     refine wp_cond_true (by exact rfl) ?_
     refine wp_sr ?_
     refine lv (.agg #[.int .u8 0, .int .u8 0, .int .u8 0, .int .u8 0, .int .u8 0, .int .u8 0, .int .u8 0, .int .u8 0]) (by kernel_rfl) ?_
     simp only [lay]
     have b356 := bt hb19 hb48
     have b357 := bt b356 hb59
     have l358 := lq b356 ge57
     have b359 := b357.trans (hb64.mono l358)
     have b360 := bt b359 hb290
     have b361 := bt b360 hb302
     have l362 := lq b360 ge300
     have b363 := b361.trans (hb307.mono l362)
     have has364 := hg10.to b363
     refine lz (ow_st 68 (.tmp 2) (.tmp 63) g8 #[.int .u8 0, .int .u8 0, .int .u8 0, .int .u8 0, .int .u8 0, .int .u8 0, .int .u8 0, .int .u8 0] _ _ rfl (by exact rfl) (by exact rfl) has364 (by kernel_rfl) rfl (by kernel_rfl) ?_)
     intro W352 hg353 bs354 hb355
     have b365 := bt b287 hb290
     have b366 := bt b365 hb302
     have l367 := lq b365 ge300
     have b368 := b366.trans (hb307.mono l367)
     have own369 := hO52.to b368
     have b370 := bt hb290 hb302
     have l371 := lq hb290 ge300
     have b372 := b370.trans (hb307.mono l371)
     have has373 := hg62.to b372
     have l374 : W289.heap.size ≤ g297 := Nat.le_of_eq ge300.symm
     have b375 := hb302.trans (hb307.mono l374)
     have own376 := hO295.to b375
     have own377 := hO296.to b375
     have z378 := hb355.size
     have own379 := own369.but6 bs354 (by omega)
     have has380 := has373.but6 bs354 (by omega)
     have own381 := own376.but6 bs354 (by omega)
     have own382 := own377.but6 bs354 (by omega)
     have has383 := hg305.but6 bs354 (by omega)
     simp only [lay]
     refine lv (.bool false) (by exact xa) ?_
     simp only [lay]
     refine lv (.int .i64 0) (by exact xa) ?_
     simp only [lay]
     refine wn ?_
     refine wp_ret ?_
     try simp only [Exit.then]
     have qp : d.part = false := by unfold D4.part; simp [*]; try omega
     have e : tells17 d = (([0, 0, 0, 0], [0, 0, 0, 0]), false, 0) := by
      unfold tells17
      simp only [hM, hPE, hEr]
      simp only [qp, Bool.false_eq_true, false_or]
      repeat (first | rw [if_pos (by first | assumption | omega | exact ne_true_of_eq_false (by assumption))] | rw [if_neg (by first | assumption | omega | exact ne_true_of_eq_false (by assumption))])
     have b384 := bt b45 hb48
     have b385 := bt b384 hb59
     have l386 := lq b384 ge57
     have b387 := b385.trans (hb64.mono l386)
     have b388 := bt b387 hb290
     have b389 := bt b388 hb302
     have l390 := lq b388 ge300
     have b391 := b389.trans (hb307.mono l390)
     have l392 := lq hb6 ge11
     have b393 := b391.trans (hb355.mono l392)
     exact bodyPost_ret (res_cell3 Try.results27 rfl (hg353.load (P := Try.prog) 68 Try.underlying68 rfl (by kernel_rfl)) rfl rfl) rfl ⟨by rw [e]; rfl, b393⟩
    refine lv (.bool true) (by exact neq_int_ne (by exact rfl) (by exact rfl) (by exact rfl) (by first | assumption | omega)) ?_
    simp only [lay]
    refine lv (.bool true) (by exact xp (b := true)) ?_
    simp only [lay]
    refine lv (.bool true) (by exact xp (b := false)) ?_
    simp only [lay]
    refine wn ?_
    refine wp_cond_true (by exact rfl) ?_
    refine wp_sr ?_
    refine lv (.agg #[.int .u8 0, .int .u8 0, .int .u8 0, .int .u8 0, .int .u8 0, .int .u8 0, .int .u8 0, .int .u8 0]) (by kernel_rfl) ?_
    simp only [lay]
    have b398 := bt hb19 hb48
    have b399 := bt b398 hb59
    have l400 := lq b398 ge57
    have b401 := b399.trans (hb64.mono l400)
    have has402 := hg10.to b401
    refine lz (ow_st 68 (.tmp 2) (.tmp 53) g8 #[.int .u8 0, .int .u8 0, .int .u8 0, .int .u8 0, .int .u8 0, .int .u8 0, .int .u8 0, .int .u8 0] _ _ rfl (by exact rfl) (by exact rfl) has402 (by kernel_rfl) rfl (by kernel_rfl) ?_)
    intro W394 hg395 bs396 hb397
    have l403 : W47.heap.size ≤ g54 := Nat.le_of_eq ge57.symm
    have b404 := hb59.trans (hb64.mono l403)
    have own405 := hO52.to b404
    have z406 := hb397.size
    have own407 := own405.but6 bs396 (by omega)
    have has408 := hg62.but6 bs396 (by omega)
    simp only [lay]
    refine lv (.bool false) (by exact xa) ?_
    simp only [lay]
    refine lv (.int .i64 0) (by exact xa) ?_
    simp only [lay]
    refine wn ?_
    refine wp_ret ?_
    try simp only [Exit.then]
    have qp : d.part = false := by unfold D4.part; simp [*]; try omega
    have e : tells17 d = (([0, 0, 0, 0], [0, 0, 0, 0]), false, 0) := by
     unfold tells17
     simp only [hM, hPE, hEr]
     simp only [qp, Bool.false_eq_true, false_or]
     repeat (first | rw [if_pos (by first | assumption | omega | exact ne_true_of_eq_false (by assumption))] | rw [if_neg (by first | assumption | omega | exact ne_true_of_eq_false (by assumption))])
    have b409 := bt b45 hb48
    have b410 := bt b409 hb59
    have l411 := lq b409 ge57
    have b412 := b410.trans (hb64.mono l411)
    have l413 := lq hb6 ge11
    have b414 := b412.trans (hb397.mono l413)
    exact bodyPost_ret (res_cell3 Try.results27 rfl (hg395.load (P := Try.prog) 68 Try.underlying68 rfl (by kernel_rfl)) rfl rfl) rfl ⟨by rw [e]; rfl, b414⟩
   refine lv (.bool true) (by exact neq_int_ne (by exact rfl) (by exact rfl) (by exact rfl) (by first | assumption | omega)) ?_
   simp only [lay]
   refine lv (.bool true) (by exact xm) ?_
   simp only [lay]
   refine lzn ?_
   simp only [lay]
   refine lzn ?_
   simp only [lay]
   refine lzn ?_
   simp only [lay]
   refine lzn ?_
   simp only [lay]
   refine lzn ?_
   simp only [lay]
   refine lzn ?_
   simp only [lay]
   refine lzn ?_
   simp only [lay]
   refine lzn ?_
   simp only [lay]
   refine lzn ?_
   simp only [lay]
   refine lzn ?_
   simp only [lay]
   refine lzn ?_
   simp only [lay]
   refine lzn ?_
   simp only [lay]
   refine lzn ?_
   simp only [lay]
   refine lv (.bool true) (by exact xp (b := true)) ?_
   simp only [lay]
   refine wn ?_
   refine wp_cond_true (by exact rfl) ?_
   refine wp_sr ?_
   refine lv (.agg #[.int .u8 0, .int .u8 0, .int .u8 0, .int .u8 0, .int .u8 0, .int .u8 0, .int .u8 0, .int .u8 0]) (by kernel_rfl) ?_
   simp only [lay]
   have b419 := bt hb19 hb48
   have b420 := bt b419 hb59
   have l421 := lq b419 ge57
   have b422 := b420.trans (hb64.mono l421)
   have has423 := hg10.to b422
   refine lz (ow_st 68 (.tmp 2) (.tmp 53) g8 #[.int .u8 0, .int .u8 0, .int .u8 0, .int .u8 0, .int .u8 0, .int .u8 0, .int .u8 0, .int .u8 0] _ _ rfl (by exact rfl) (by exact rfl) has423 (by kernel_rfl) rfl (by kernel_rfl) ?_)
   intro W415 hg416 bs417 hb418
   have l424 : W47.heap.size ≤ g54 := Nat.le_of_eq ge57.symm
   have b425 := hb59.trans (hb64.mono l424)
   have own426 := hO52.to b425
   have z427 := hb418.size
   have own428 := own426.but6 bs417 (by omega)
   have has429 := hg62.but6 bs417 (by omega)
   simp only [lay]
   refine lv (.bool false) (by exact xa) ?_
   simp only [lay]
   refine lv (.int .i64 0) (by exact xa) ?_
   simp only [lay]
   refine wn ?_
   refine wp_ret ?_
   try simp only [Exit.then]
   have qp : d.part = false := by unfold D4.part; simp [*]; try omega
   have e : tells17 d = (([0, 0, 0, 0], [0, 0, 0, 0]), false, 0) := by
    unfold tells17
    simp only [hM, hPE, hEr]
    simp only [qp, Bool.false_eq_true, false_or]
    repeat (first | rw [if_pos (by first | assumption | omega | exact ne_true_of_eq_false (by assumption))] | rw [if_neg (by first | assumption | omega | exact ne_true_of_eq_false (by assumption))])
   have b430 := bt b45 hb48
   have b431 := bt b430 hb59
   have l432 := lq b430 ge57
   have b433 := b431.trans (hb64.mono l432)
   have l434 := lq hb6 ge11
   have b435 := b433.trans (hb418.mono l434)
   exact bodyPost_ret (res_cell3 Try.results27 rfl (hg416.load (P := Try.prog) 68 Try.underlying68 rfl (by kernel_rfl)) rfl rfl) rfl ⟨by rw [e]; rfl, b435⟩
  refine lv (.bool true) (by exact neq_int_ne (by exact rfl) (by exact rfl) (by exact rfl) (by first | assumption | omega)) ?_
  simp only [lay]
  refine lv (.bool true) (by exact xp (b := false)) ?_
  simp only [lay]
  refine wn ?_
  refine wp_cond_true (by exact rfl) ?_
  refine wp_sr ?_
  refine lv (.agg #[.int .u8 0, .int .u8 0, .int .u8 0, .int .u8 0, .int .u8 0, .int .u8 0, .int .u8 0, .int .u8 0]) (by kernel_rfl) ?_
  simp only [lay]
  have has440 := hg10.to hb19
  refine lz (ow_st 68 (.tmp 2) (.tmp 29) g8 #[.int .u8 0, .int .u8 0, .int .u8 0, .int .u8 0, .int .u8 0, .int .u8 0, .int .u8 0, .int .u8 0] _ _ rfl (by exact rfl) (by exact rfl) has440 (by kernel_rfl) rfl (by kernel_rfl) ?_)
  intro W436 hg437 bs438 hb439
  have z441 := hb439.size
  simp only [lay]
  refine lv (.bool false) (by exact xa) ?_
  simp only [lay]
  refine lv (.int .i64 0) (by exact xa) ?_
  simp only [lay]
  refine wn ?_
  refine wp_ret ?_
  try simp only [Exit.then]
  have qp : d.part = false := by unfold D4.part; simp [*]; try omega
  have e : tells17 d = (([0, 0, 0, 0], [0, 0, 0, 0]), false, 0) := by
   unfold tells17
   simp only [hM, hPE, hEr]
   simp only [qp, Bool.false_eq_true, false_or]
   repeat (first | rw [if_pos (by first | assumption | omega | exact ne_true_of_eq_false (by assumption))] | rw [if_neg (by first | assumption | omega | exact ne_true_of_eq_false (by assumption))])
  have b442 := bt b16 hb19
  have l443 := lq hb6 ge11
  have b444 := b442.trans (hb439.mono l443)
  exact bodyPost_ret (res_cell3 Try.results27 rfl (hg437.load (P := Try.prog) 68 Try.underlying68 rfl (by kernel_rfl)) rfl rfl) rfl ⟨by rw [e]; rfl, b444⟩
 refine lv (.bool true) (by exact neq_int_ne (by exact rfl) (by exact rfl) (by exact rfl) (by first | assumption | omega)) ?_
 simp only [lay]
 refine wn ?_
 refine wp_cond_true (by exact rfl) ?_
 refine wp_sr ?_
 refine lv (.agg #[.int .u8 0, .int .u8 0, .int .u8 0, .int .u8 0, .int .u8 0, .int .u8 0, .int .u8 0, .int .u8 0]) (by kernel_rfl) ?_
 simp only [lay]
 refine lv (.int .i64 d.check) (by exact xm) ?_
 simp only [lay]
 have has449 := hg10.to hb19
 refine lz (ow_st 68 (.tmp 2) (.tmp 15) g8 #[.int .u8 0, .int .u8 0, .int .u8 0, .int .u8 0, .int .u8 0, .int .u8 0, .int .u8 0, .int .u8 0] _ _ rfl (by exact rfl) (by exact rfl) has449 (by kernel_rfl) rfl (by kernel_rfl) ?_)
 intro W445 hg446 bs447 hb448
 have z450 := hb448.size
 simp only [lay]
 refine lv (.bool false) (by exact xa) ?_
 simp only [lay]
 refine lv (.int .i64 d.check) (by exact xa) ?_
 simp only [lay]
 refine wn ?_
 refine wp_ret ?_
 try simp only [Exit.then]
 have e : tells17 d = (([0, 0, 0, 0], [0, 0, 0, 0]), false, d.check) := by
  unfold tells17
  simp only [hM, hPE, hEr]
  repeat (first | rw [if_pos (by first | assumption | omega | exact ne_true_of_eq_false (by assumption))] | rw [if_neg (by first | assumption | omega | exact ne_true_of_eq_false (by assumption))])
 have b451 := bt b16 hb19
 have l452 := lq hb6 ge11
 have b453 := b451.trans (hb448.mono l452)
 exact bodyPost_ret (res_cell3 Try.results27 rfl (hg446.load (P := Try.prog) 68 Try.underlying68 rfl (by kernel_rfl)) rfl rfl) rfl ⟨by rw [e]; rfl, b453⟩
end Go.Proofs.Ytijnifbpbgckgaa
