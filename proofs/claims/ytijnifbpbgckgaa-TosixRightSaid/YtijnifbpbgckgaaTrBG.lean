/-
  Lemmas and walks for the row of TosixRight (part 33 of 33).
-/
import Derived.Test.YtijnifbpbgckgaaTrAF
import Derived.Test.YtijnifbpbgckgaaTrBE
import Derived.Test.YtijnifbpbgckgaaTrBF
set_option linter.unusedVariables false
set_option linter.unusedSimpArgs false
namespace Go.Proofs.Ytijnifbpbgckgaa
open Go.RowKit Go.Shelf
attribute [local irreducible] wpList Code.wp Oper.wp wpOp wpAnyH

theorem pack17_at {d : D4} {s t s' t' : List Int} (h : (pack17 d s t s' t').2 = 0) : (pack17 d s t s' t').1.bl.length ≤ 65535 ∧ (pack17 d s t s' t').1.src = s ∧ (pack17 d s t s' t').1.dst = t := by
 obtain ⟨-, -, hpk, h6⟩ := pack17_ok h
 rw [← hpk] at h6
 have := (D6.ok_of_check h6).2
 exact ⟨by omega, by rw [hpk]; rfl, by rw [hpk]; rfl⟩

set_option maxRecDepth 100000 in
set_option maxHeartbeats 8000000 in
theorem right17_walk (d : D4) (p : W4) (s t s' t' : List Int) (w : World) (hR : Rd4 w.heap.size w d p) (hE : E6ok s t) (hE' : E6ok s' t') :
  Calls Try.prog 6 #[.agg (d.cells p), .agg (ends6 s t), .agg (ends6 s' t')] w fun e w' => e = .returned (.bool true) ∧ Below w.heap.size w w' := by
 obtain ⟨C, hC⟩ : ∃ x, cut17 d = x := ⟨_, rfl⟩
 have hRC := cut17_rd hR
 rw [hC] at hRC
 have yoC := hRC.opt
 have ybC := hRC.body
 obtain ⟨PD, hPD⟩ : ∃ x, (pack17 C s t s' t').1 = x := ⟨_, rfl⟩
 obtain ⟨PE, hPE⟩ : ∃ x, (pack17 C s t s' t').2 = x := ⟨_, rfl⟩
 go_enter Try.func6, Try.ntmps6
 refine wp_sr ?_
 refine lz (ow_box 27 (.tmp 0) _ rfl rfl ?_)
 intro g1 W2 hg3 ge4 sz5 hb6
 have z7 := hb6.size
 simp only [lay]
 refine lz (ow_box 31 (.tmp 1) _ rfl rfl ?_)
 intro g8 W9 hg10 ge11 sz12 hb13
 have z14 := hb13.size
 simp only [lay]
 refine lz (ow_box 31 (.tmp 2) _ rfl rfl ?_)
 intro g15 W16 hg17 ge18 sz19 hb20
 have z21 := hb20.size
 simp only [lay]
 refine lv (.bool false) (by exact xa) ?_
 simp only [lay]
 refine wn ?_
 refine wp_sr ?_
 have b22 := bt hb13 hb20
 have has23 := hg3.to b22
 refine lv (.agg (d.cells p)) (by exact xo (has23.load (P := Try.prog) 27 Try.underlying27 rfl (by kernel_rfl))) ?_
 simp only [lay]
 have b24 := bt hb6 hb13
 have b25 := bt b24 hb20
 have rd26 := hR.to b25
 refine lz (ow_call (fun v w' => v = .agg (C.cells p) ∧ Below W16.heap.size W16 w') (by exact xk Try.func9) ((cut17_any d p W16 rd26).mono fun e w' h => ⟨_, h.1, by rw [hC], h.2⟩) ?_)
 rintro _ W27 ⟨rfl, hb28⟩
 have z29 := hb28.size
 simp only [lay]
 have b34 := bt b22 hb28
 have has35 := hg3.to b34
 refine lz (ow_st 27 (.tmp 3) (.tmp 11) g1 (C.cells p) _ _ rfl (by exact rfl) (by exact rfl) has35 (by kernel_rfl) rfl (by kernel_rfl) ?_)
 intro W30 hg31 bs32 hb33
 have b36 := bt hb20 hb28
 have has37 := hg10.to b36
 have has38 := hg17.to hb28
 have z39 := hb33.size
 have has40 := has37.but6 bs32 (by omega)
 have has41 := has38.but6 bs32 (by omega)
 simp only [lay]
 refine wn ?_
 refine wp_sr ?_
 refine lv (.agg (C.cells p)) (by exact xo (hg31.load (P := Try.prog) 27 Try.underlying27 rfl (by kernel_rfl))) ?_
 simp only [lay]
 refine lv (.agg (ends6 s t)) (by exact xo (has40.load (P := Try.prog) 31 Try.underlying31 rfl (by kernel_rfl))) ?_
 simp only [lay]
 refine lv (.agg (ends6 s' t')) (by exact xo (has41.load (P := Try.prog) 31 Try.underlying31 rfl (by kernel_rfl))) ?_
 simp only [lay]
 have b42 := bt b25 hb28
 have l43 : w.heap.size ≤ g1 := Nat.le_of_eq ge4.symm
 have b44 := b42.trans (hb33.mono l43)
 have rd45 := hRC.to b44
 refine lz (ow_call (fun v w' => (∃ q, v = .tuple #[.agg (PD.cells q), .int .i64 PE] ∧ Own6 w' W30.heap.size PD q) ∧ Below W30.heap.size W30 w') (by exact xk Try.func10) ((pack17_any C p s t s' t' hE hE' W30 rd45).mono (by rintro e w' ⟨⟨q, rfl, ho⟩, hb⟩; rw [hPD] at ho; exact ⟨_, rfl, ⟨q, by rw [hPD, hPE], ho⟩, hb⟩)) ?_)
 rintro _ W46 ⟨⟨p48, rfl, ho49⟩, hb47⟩
 have z50 := hb47.size
 simp only [lay]
 refine lv (.tuple #[.agg (PD.cells p48), .int .i64 PE]) (by exact xm) ?_
 simp only [lay]
 refine lv (.agg (PD.cells p48)) (by exact xe) ?_
 simp only [lay]
 refine lv (.int .i64 PE) (by exact xe) ?_
 simp only [lay]
 refine lz (oa #[.int .u8 0, .int .u32 0, .int .u8 0, .int .u8 0, .int .u8 0, .int .u8 0, .int .u8 0, .int .u8 0, .int .u8 0, .int .u8 0, .int .u8 0, .int .u8 0, .int .u8 0, .int .u8 0, .int .u8 0, .int .u8 0, .int .u8 0, .int .u8 0, .int .u8 0, .int .u8 0, .int .u8 0, .int .u8 0, .int .u8 0, .int .u8 0, .int .u8 0, .int .u8 0, .int .u8 0, .int .u8 0, .int .u8 0, .int .u8 0, .int .u8 0, .int .u8 0, .int .u8 0, .int .u8 0, .int .u8 0, .slice none 0 0, .bool false, .int .u32 0, .int .i64 0, .bool false, .int .u8 0, .slice none 0 0] ?_)
 intro g51 W52 hg53 ge54 sz55 hb56
 have z57 := hb56.size
 simp only [lay]
 refine lz (ow_st 36 (.tmp 7) (.tmp 17) g51 (PD.cells p48) _ _ rfl (by exact rfl) (by exact rfl) hg53 (by kernel_rfl) rfl (by kernel_rfl) ?_)
 intro W58 hg59 bs60 hb61
 have z62 := hb61.size
 simp only [lay]
 refine lv (.int .i64 PE) (by exact xa) ?_
 simp only [lay]
 refine wn ?_
 refine wp_seq ?_
 refine wp_sr ?_
 refine lv (.int .i64 PE) (by exact xm) ?_
 simp only [lay]
 by_cases q63 : PE = 0
 case pos =>
  have hbl := (D4.ok_of_check (pack17_ok (hPE.trans q63)).1).2.2.2
  refine lv (.bool false) (by exact neq_int_eq (by exact rfl) (by exact rfl) (by exact rfl) (by first | assumption | omega)) ?_
  simp only [lay]
  refine lv (.bool false) (by exact xm) ?_
  simp only [lay]
  refine lv (.pointer (some ⟨g1, 3, none⟩)) (by exact xf 3 0 Try.underlying27) ?_
  simp only [lay]
  have b64 := bt hb47 hb56
  have l65 := lq hb47 ge54
  have b66 := b64.trans (hb61.mono l65)
  have has67 := hg31.to b66
  refine lv (.bool C.mf) (by exact xc Try.underlying4 (has67.cell 3 rfl)) ?_
  simp only [lay]
  refine lv (.bool C.mf) (by exact xp (b := false)) ?_
  simp only [lay]
  refine lv (.bool C.mf) (by exact xm) ?_
  simp only [lay]
  by_cases q68 : C.mf = true
  case pos =>
   rw [q68]
   refine lzn ?_
   simp only [lay]
   refine lzn ?_
   simp only [lay]
   refine lzn ?_
   simp only [lay]
   refine lv (.bool true) (by exact xp (b := true)) ?_
   simp only [lay]
   refine wn ?_
   refine wp_cond_true (by exact rfl) ?_
   refine wp_sr ?_
   refine lz (ow_call (fun v w' => v = .bool true ∧ Below W58.heap.size W58 w') (by exact xk Try.func13) ((alive17_any W58).mono fun e w' h => ⟨_, h.1, rfl, h.2⟩) ?_)
   rintro _ W69 ⟨rfl, hb70⟩
   have z71 := hb70.size
   simp only [lay]
   refine lv (.bool true) (by exact xa) ?_
   simp only [lay]
   refine wn ?_
   refine wp_ret ?_
   try simp only [Exit.then]
   have b72 := bt b44 hb47
   have b73 := bt b72 hb56
   have l74 := lq b72 ge54
   have b75 := b73.trans (hb61.mono l74)
   have b76 := bt b75 hb70
   exact bodyPost_ret (res_one Try.results6 rfl) rfl ⟨rfl, b76⟩
  replace q68 := eq_false_of_ne_true q68
  rw [q68]
  refine lv (.pointer (some ⟨g1, 4, none⟩)) (by exact xf 4 0 Try.underlying27) ?_
  simp only [lay]
  refine lv (.int .i64 C.off) (by exact xc Try.underlying3 (has67.cell 4 rfl)) ?_
  simp only [lay]
  by_cases q77 : C.off > 0
  case pos =>
   refine lv (.bool true) (by exact ex_gtr (by exact rfl) (by exact rfl) (by exact rfl) (decide_eq_true (by first | assumption | omega | decide))) ?_
   simp only [lay]
   refine lv (.bool true) (by exact xp (b := false)) ?_
   simp only [lay]
   refine wn ?_
   refine wp_cond_true (by exact rfl) ?_
   refine wp_sr ?_
   refine lz (ow_call (fun v w' => v = .bool true ∧ Below W58.heap.size W58 w') (by exact xk Try.func13) ((alive17_any W58).mono fun e w' h => ⟨_, h.1, rfl, h.2⟩) ?_)
   rintro _ W78 ⟨rfl, hb79⟩
   have z80 := hb79.size
   simp only [lay]
   refine lv (.bool true) (by exact xa) ?_
   simp only [lay]
   refine wn ?_
   refine wp_ret ?_
   try simp only [Exit.then]
   have b81 := bt b44 hb47
   have b82 := bt b81 hb56
   have l83 := lq b81 ge54
   have b84 := b82.trans (hb61.mono l83)
   have b85 := bt b84 hb79
   exact bodyPost_ret (res_one Try.results6 rfl) rfl ⟨rfl, b85⟩
  refine lv (.bool false) (by exact ex_gtr (by exact rfl) (by exact rfl) (by exact rfl) (decide_eq_false (by first | assumption | omega | decide))) ?_
  simp only [lay]
  refine lv (.bool false) (by exact xp (b := false)) ?_
  simp only [lay]
  refine wn ?_
  refine wp_cond_false (by exact rfl) ?_
  refine wp_skip ?_
  change Code.wp _ _ _ _ _
  refine wp_sr ?_
  refine lv (.pointer (some ⟨g1, 6, none⟩)) (by exact xf 6 0 Try.underlying27) ?_
  simp only [lay]
  refine lv (.int .u8 C.proto) (by exact xc Try.underlying5 (has67.cell 6 rfl)) ?_
  simp only [lay]
  by_cases q86 : C.proto = 17
  case pos =>
   refine lv (.bool true) (by exact yq) ?_
   simp only [lay]
   refine lv (.bool true) (by exact xm) ?_
   simp only [lay]
   refine lv (.pointer (some ⟨g1, 16, none⟩)) (by exact xf 16 0 Try.underlying27) ?_
   simp only [lay]
   refine lv (.slice p.bA C.bl.length p.bc) (by exact xc Try.underlying25 (has67.cell 16 rfl)) ?_
   simp only [lay]
   refine lv (.int .i64 (C.bl.length : Int)) (by exact xz Try.underlying25) ?_
   simp only [lay]
   by_cases q87 : (C.bl.length : Int) ≥ 8
   case pos =>
    refine lv (.bool true) (by exact ex_geq (by exact rfl) (by exact rfl) (by exact rfl) (decide_eq_true (by first | assumption | omega | decide))) ?_
    simp only [lay]
    refine lv (.bool true) (by exact xp (b := true)) ?_
    simp only [lay]
    refine lv (.bool true) (by exact xm) ?_
    simp only [lay]
    refine lv (.pointer (some ⟨g1, 16, none⟩)) (by exact xf 16 0 Try.underlying27) ?_
    simp only [lay]
    refine lv (.slice p.bA C.bl.length p.bc) (by exact xc Try.underlying25 (has67.cell 16 rfl)) ?_
    simp only [lay]
    obtain ⟨b88, o89, hA90⟩ := ybC.form (k := 6) (by omega)
    refine lv (.pointer (some ⟨b88, o89 + 6, none⟩)) (by exact xi 6 Try.underlying25 hA90) ?_
    simp only [lay]
    have b91 := bt b44 hb47
    have b92 := bt b91 hb56
    have l93 := lq b91 ge54
    have b94 := b92.trans (hb61.mono l93)
    have by95 := ybC.to b94
    refine lv (.int .u8 (C.bl.getD 6 0)) (by exact xc Try.underlying5 (by95.atE (k := 6) hA90 (by omega))) ?_
    simp only [lay]
    by_cases q96 : C.bl.getD 6 0 = 0
    case pos =>
     refine lv (.bool true) (by exact yq) ?_
     simp only [lay]
     refine lv (.bool true) (by exact xp (b := true)) ?_
     simp only [lay]
     refine lv (.bool true) (by exact xm) ?_
     simp only [lay]
     refine lv (.pointer (some ⟨g1, 16, none⟩)) (by exact xf 16 0 Try.underlying27) ?_
     simp only [lay]
     refine lv (.slice p.bA C.bl.length p.bc) (by exact xc Try.underlying25 (has67.cell 16 rfl)) ?_
     simp only [lay]
     refine lv (.pointer (some ⟨b88, o89 + 7, none⟩)) (by exact xi 7 Try.underlying25 hA90) ?_
     simp only [lay]
     refine lv (.int .u8 (C.bl.getD 7 0)) (by exact xc Try.underlying5 (by95.atE (k := 7) hA90 (by omega))) ?_
     simp only [lay]
     by_cases q97 : C.bl.getD 7 0 = 0
     case pos =>
      refine lv (.bool true) (by exact yq) ?_
      simp only [lay]
      refine lv (.bool true) (by exact xp (b := true)) ?_
      simp only [lay]
      refine lv (.bool true) (by exact xa) ?_
      simp only [lay]
      refine wn ?_
      refine wp_seq ?_
      refine wp_sr ?_
      refine lv (.pointer (some ⟨g1, 6, none⟩)) (by exact xf 6 0 Try.underlying27) ?_
      simp only [lay]
      refine lv (.int .u8 C.proto) (by exact xc Try.underlying5 (has67.cell 6 rfl)) ?_
      simp only [lay]
      refine lv (.bool false) (by exact yqn) ?_
      simp only [lay]
      refine wn ?_
      refine wp_cond_false (by exact rfl) ?_
      refine wp_skip ?_
      change Code.wp _ _ _ _ _
      refine wp_seq ?_
      refine wp_sr ?_
      refine lv (.pointer (some ⟨g1, 6, none⟩)) (by exact xf 6 0 Try.underlying27) ?_
      simp only [lay]
      refine lv (.int .u8 C.proto) (by exact xc Try.underlying5 (has67.cell 6 rfl)) ?_
      simp only [lay]
      refine lv (.bool false) (by exact yqn) ?_
      simp only [lay]
      refine lv (.bool false) (by exact xm) ?_
      simp only [lay]
      refine lv (.pointer (some ⟨g1, 6, none⟩)) (by exact xf 6 0 Try.underlying27) ?_
      simp only [lay]
      refine lv (.int .u8 C.proto) (by exact xc Try.underlying5 (has67.cell 6 rfl)) ?_
      simp only [lay]
      refine lv (.bool true) (by exact yq) ?_
      simp only [lay]
      refine lv (.bool true) (by exact xp (b := false)) ?_
      simp only [lay]
      refine lv (.bool true) (by exact xm) ?_
      simp only [lay]
      refine lv (.bool true) (by exact xm) ?_
      simp only [lay]
      refine lv (.bool true) (by exact xm) ?_
      simp only [lay]
      refine lzn ?_
      simp only [lay]
      refine lzn ?_
      simp only [lay]
      refine lv (.bool true) (by exact xp (b := true)) ?_
      simp only [lay]
      refine lv (.bool true) (by exact xp (b := true)) ?_
      simp only [lay]
      refine lv (.bool true) (by exact xm) ?_
      simp only [lay]
      refine lv (.agg (PD.cells p48)) (by exact xo (hg59.load (P := Try.prog) 36 Try.underlying36 rfl (by kernel_rfl))) ?_
      simp only [lay]
      have l101 : W46.heap.size ≤ g51 := Nat.le_of_eq ge54.symm
      have b102 := hb56.trans (hb61.mono l101)
      have own6103 := ho49.to b102
      have hy := right17_seg (s' := s') (t' := t') hRC.ok hE.s hE.t hE.sL hE.tL hRC.body.rng (hPE.trans (by assumption)) (by omega) (by assumption) (by omega) (.inl ⟨by assumption, by omega, by assumption, by assumption⟩)
      rw [hPD] at hy
      obtain ⟨hp1, hp2, hp3⟩ := pack17_at (hPE.trans (by assumption))
      rw [hPD] at hp1 hp2 hp3
      refine lz (ow_call (fun v w' => v = .bool true ∧ Below W58.heap.size W58 w') (by exact xk Try.func19) ((right6_any PD _ W58 own6103.rd hp1).mono fun e w' h => ⟨_, h.1, by rw [hp2, hp3, decide_eq_true hy], h.2⟩) ?_)
      rintro _ W104 ⟨rfl, hb105⟩
      have z106 := hb105.size
      simp only [lay]
      refine lv (.bool false) (by exact ex_not (b := true) (by exact rfl) (by exact rfl)) ?_
      simp only [lay]
      refine lv (.bool false) (by exact xp (b := true)) ?_
      simp only [lay]
      refine wn ?_
      refine wp_cond_false (by exact rfl) ?_
      refine wp_skip ?_
      change Code.wp _ _ _ _ _
      refine wp_sr ?_
      refine lz (ow_call (fun v w' => v = .bool true ∧ Below W104.heap.size W104 w') (by exact xk Try.func13) ((alive17_any W104).mono fun e w' h => ⟨_, h.1, rfl, h.2⟩) ?_)
      rintro _ W107 ⟨rfl, hb108⟩
      have z109 := hb108.size
      simp only [lay]
      refine lv (.bool true) (by exact xa) ?_
      simp only [lay]
      refine wn ?_
      refine wp_ret ?_
      try simp only [Exit.then]
      have b110 := bt b94 hb105
      have b111 := bt b110 hb108
      exact bodyPost_ret (res_one Try.results6 rfl) rfl ⟨rfl, b111⟩
     refine lv (.bool false) (by exact yqn) ?_
     simp only [lay]
     refine lv (.bool false) (by exact xp (b := true)) ?_
     simp only [lay]
     refine lv (.bool false) (by exact xa) ?_
     simp only [lay]
     refine wn ?_
     refine wp_seq ?_
     refine wp_sr ?_
     refine lv (.pointer (some ⟨g1, 6, none⟩)) (by exact xf 6 0 Try.underlying27) ?_
     simp only [lay]
     refine lv (.int .u8 C.proto) (by exact xc Try.underlying5 (has67.cell 6 rfl)) ?_
     simp only [lay]
     refine lv (.bool false) (by exact yqn) ?_
     simp only [lay]
     refine wn ?_
     refine wp_cond_false (by exact rfl) ?_
     refine wp_skip ?_
     change Code.wp _ _ _ _ _
     refine wp_seq ?_
     refine wp_sr ?_
     refine lv (.pointer (some ⟨g1, 6, none⟩)) (by exact xf 6 0 Try.underlying27) ?_
     simp only [lay]
     refine lv (.int .u8 C.proto) (by exact xc Try.underlying5 (has67.cell 6 rfl)) ?_
     simp only [lay]
     refine lv (.bool false) (by exact yqn) ?_
     simp only [lay]
     refine lv (.bool false) (by exact xm) ?_
     simp only [lay]
     refine lv (.pointer (some ⟨g1, 6, none⟩)) (by exact xf 6 0 Try.underlying27) ?_
     simp only [lay]
     refine lv (.int .u8 C.proto) (by exact xc Try.underlying5 (has67.cell 6 rfl)) ?_
     simp only [lay]
     refine lv (.bool true) (by exact yq) ?_
     simp only [lay]
     refine lv (.bool true) (by exact xp (b := false)) ?_
     simp only [lay]
     refine lv (.bool true) (by exact xm) ?_
     simp only [lay]
     refine lv (.bool false) (by exact xm) ?_
     simp only [lay]
     refine lv (.bool false) (by exact xm) ?_
     simp only [lay]
     refine lv (.agg (C.cells p)) (by exact xo (has67.load (P := Try.prog) 27 Try.underlying27 rfl (by kernel_rfl))) ?_
     simp only [lay]
     by_cases q115 : sumw (pse4r C.src C.dst (C.bl.length : Int) C.proto ++ C.bl) = 65535
     case pos =>
      have rd116 := hRC.to b94
      refine lz (ow_call (fun v w' => v = .bool true ∧ Below W58.heap.size W58 w') (by exact xk Try.func20) ((right4_any C p W58 rd116 (by omega)).mono fun e w' h => ⟨_, h.1, by rw [decide_eq_true q115], h.2⟩) ?_)
      rintro _ W117 ⟨rfl, hb118⟩
      have z119 := hb118.size
      simp only [lay]
      refine lv (.bool true) (by exact xp (b := false)) ?_
      simp only [lay]
      refine lv (.bool true) (by exact xp (b := true)) ?_
      simp only [lay]
      refine lv (.bool true) (by exact xm) ?_
      simp only [lay]
      have has120 := hg59.to hb118
      refine lv (.agg (PD.cells p48)) (by exact xo (has120.load (P := Try.prog) 36 Try.underlying36 rfl (by kernel_rfl))) ?_
      simp only [lay]
      have l121 : W46.heap.size ≤ g51 := Nat.le_of_eq ge54.symm
      have b122 := hb56.trans (hb61.mono l121)
      have b123 := bt b122 hb118
      have own6124 := ho49.to b123
      have hy := right17_seg (s' := s') (t' := t') hRC.ok hE.s hE.t hE.sL hE.tL hRC.body.rng (hPE.trans (by assumption)) (by omega) (by assumption) (by omega) (.inr (by assumption))
      rw [hPD] at hy
      obtain ⟨hp1, hp2, hp3⟩ := pack17_at (hPE.trans (by assumption))
      rw [hPD] at hp1 hp2 hp3
      refine lz (ow_call (fun v w' => v = .bool true ∧ Below W117.heap.size W117 w') (by exact xk Try.func19) ((right6_any PD _ W117 own6124.rd hp1).mono fun e w' h => ⟨_, h.1, by rw [hp2, hp3, decide_eq_true hy], h.2⟩) ?_)
      rintro _ W125 ⟨rfl, hb126⟩
      have z127 := hb126.size
      simp only [lay]
      refine lv (.bool false) (by exact ex_not (b := true) (by exact rfl) (by exact rfl)) ?_
      simp only [lay]
      refine lv (.bool false) (by exact xp (b := true)) ?_
      simp only [lay]
      refine wn ?_
      refine wp_cond_false (by exact rfl) ?_
      refine wp_skip ?_
      change Code.wp _ _ _ _ _
      refine wp_sr ?_
      refine lz (ow_call (fun v w' => v = .bool true ∧ Below W125.heap.size W125 w') (by exact xk Try.func13) ((alive17_any W125).mono fun e w' h => ⟨_, h.1, rfl, h.2⟩) ?_)
      rintro _ W128 ⟨rfl, hb129⟩
      have z130 := hb129.size
      simp only [lay]
      refine lv (.bool true) (by exact xa) ?_
      simp only [lay]
      refine wn ?_
      refine wp_ret ?_
      try simp only [Exit.then]
      have b131 := bt b94 hb118
      have b132 := bt b131 hb126
      have b133 := bt b132 hb129
      exact bodyPost_ret (res_one Try.results6 rfl) rfl ⟨rfl, b133⟩
     have rd134 := hRC.to b94
     refine lz (ow_call (fun v w' => v = .bool false ∧ Below W58.heap.size W58 w') (by exact xk Try.func20) ((right4_any C p W58 rd134 (by omega)).mono fun e w' h => ⟨_, h.1, by rw [decide_eq_false q115], h.2⟩) ?_)
     rintro _ W135 ⟨rfl, hb136⟩
     have z137 := hb136.size
     simp only [lay]
     refine lv (.bool false) (by exact xp (b := false)) ?_
     simp only [lay]
     refine lv (.bool false) (by exact xp (b := true)) ?_
     simp only [lay]
     refine lv (.bool false) (by exact xm) ?_
     simp only [lay]
     refine lzn ?_
     simp only [lay]
     refine lzn ?_
     simp only [lay]
     refine lzn ?_
     simp only [lay]
     refine lv (.bool false) (by exact xp (b := false)) ?_
     simp only [lay]
     refine wn ?_
     refine wp_cond_false (by exact rfl) ?_
     refine wp_skip ?_
     change Code.wp _ _ _ _ _
     refine wp_sr ?_
     refine lz (ow_call (fun v w' => v = .bool true ∧ Below W135.heap.size W135 w') (by exact xk Try.func13) ((alive17_any W135).mono fun e w' h => ⟨_, h.1, rfl, h.2⟩) ?_)
     rintro _ W138 ⟨rfl, hb139⟩
     have z140 := hb139.size
     simp only [lay]
     refine lv (.bool true) (by exact xa) ?_
     simp only [lay]
     refine wn ?_
     refine wp_ret ?_
     try simp only [Exit.then]
     have b141 := bt b94 hb136
     have b142 := bt b141 hb139
     exact bodyPost_ret (res_one Try.results6 rfl) rfl ⟨rfl, b142⟩
    refine lv (.bool false) (by exact yqn) ?_
    simp only [lay]
    refine lv (.bool false) (by exact xp (b := true)) ?_
    simp only [lay]
    refine lv (.bool false) (by exact xm) ?_
    simp only [lay]
    refine lzn ?_
    simp only [lay]
    refine lzn ?_
    simp only [lay]
    refine lzn ?_
    simp only [lay]
    refine lzn ?_
    simp only [lay]
    refine lzn ?_
    simp only [lay]
    refine lv (.bool false) (by exact xp (b := false)) ?_
    simp only [lay]
    refine lv (.bool false) (by exact xa) ?_
    simp only [lay]
    refine wn ?_
    refine wp_seq ?_
    refine wp_sr ?_
    refine lv (.pointer (some ⟨g1, 6, none⟩)) (by exact xf 6 0 Try.underlying27) ?_
    simp only [lay]
    refine lv (.int .u8 C.proto) (by exact xc Try.underlying5 (has67.cell 6 rfl)) ?_
    simp only [lay]
    refine lv (.bool false) (by exact yqn) ?_
    simp only [lay]
    refine wn ?_
    refine wp_cond_false (by exact rfl) ?_
    refine wp_skip ?_
    change Code.wp _ _ _ _ _
    refine wp_seq ?_
    refine wp_sr ?_
    refine lv (.pointer (some ⟨g1, 6, none⟩)) (by exact xf 6 0 Try.underlying27) ?_
    simp only [lay]
    refine lv (.int .u8 C.proto) (by exact xc Try.underlying5 (has67.cell 6 rfl)) ?_
    simp only [lay]
    refine lv (.bool false) (by exact yqn) ?_
    simp only [lay]
    refine lv (.bool false) (by exact xm) ?_
    simp only [lay]
    refine lv (.pointer (some ⟨g1, 6, none⟩)) (by exact xf 6 0 Try.underlying27) ?_
    simp only [lay]
    refine lv (.int .u8 C.proto) (by exact xc Try.underlying5 (has67.cell 6 rfl)) ?_
    simp only [lay]
    refine lv (.bool true) (by exact yq) ?_
    simp only [lay]
    refine lv (.bool true) (by exact xp (b := false)) ?_
    simp only [lay]
    refine lv (.bool true) (by exact xm) ?_
    simp only [lay]
    refine lv (.bool false) (by exact xm) ?_
    simp only [lay]
    refine lv (.bool false) (by exact xm) ?_
    simp only [lay]
    refine lv (.agg (C.cells p)) (by exact xo (has67.load (P := Try.prog) 27 Try.underlying27 rfl (by kernel_rfl))) ?_
    simp only [lay]
    by_cases q146 : sumw (pse4r C.src C.dst (C.bl.length : Int) C.proto ++ C.bl) = 65535
    case pos =>
     have rd147 := hRC.to b94
     refine lz (ow_call (fun v w' => v = .bool true ∧ Below W58.heap.size W58 w') (by exact xk Try.func20) ((right4_any C p W58 rd147 (by omega)).mono fun e w' h => ⟨_, h.1, by rw [decide_eq_true q146], h.2⟩) ?_)
     rintro _ W148 ⟨rfl, hb149⟩
     have z150 := hb149.size
     simp only [lay]
     refine lv (.bool true) (by exact xp (b := false)) ?_
     simp only [lay]
     refine lv (.bool true) (by exact xp (b := true)) ?_
     simp only [lay]
     refine lv (.bool true) (by exact xm) ?_
     simp only [lay]
     have has151 := hg59.to hb149
     refine lv (.agg (PD.cells p48)) (by exact xo (has151.load (P := Try.prog) 36 Try.underlying36 rfl (by kernel_rfl))) ?_
     simp only [lay]
     have l152 : W46.heap.size ≤ g51 := Nat.le_of_eq ge54.symm
     have b153 := hb56.trans (hb61.mono l152)
     have b154 := bt b153 hb149
     have own6155 := ho49.to b154
     have hy := right17_seg (s' := s') (t' := t') hRC.ok hE.s hE.t hE.sL hE.tL hRC.body.rng (hPE.trans (by assumption)) (by omega) (by assumption) (by omega) (.inr (by assumption))
     rw [hPD] at hy
     obtain ⟨hp1, hp2, hp3⟩ := pack17_at (hPE.trans (by assumption))
     rw [hPD] at hp1 hp2 hp3
     refine lz (ow_call (fun v w' => v = .bool true ∧ Below W148.heap.size W148 w') (by exact xk Try.func19) ((right6_any PD _ W148 own6155.rd hp1).mono fun e w' h => ⟨_, h.1, by rw [hp2, hp3, decide_eq_true hy], h.2⟩) ?_)
     rintro _ W156 ⟨rfl, hb157⟩
     have z158 := hb157.size
     simp only [lay]
     refine lv (.bool false) (by exact ex_not (b := true) (by exact rfl) (by exact rfl)) ?_
     simp only [lay]
     refine lv (.bool false) (by exact xp (b := true)) ?_
     simp only [lay]
     refine wn ?_
     refine wp_cond_false (by exact rfl) ?_
     refine wp_skip ?_
     change Code.wp _ _ _ _ _
     refine wp_sr ?_
     refine lz (ow_call (fun v w' => v = .bool true ∧ Below W156.heap.size W156 w') (by exact xk Try.func13) ((alive17_any W156).mono fun e w' h => ⟨_, h.1, rfl, h.2⟩) ?_)
     rintro _ W159 ⟨rfl, hb160⟩
     have z161 := hb160.size
     simp only [lay]
     refine lv (.bool true) (by exact xa) ?_
     simp only [lay]
     refine wn ?_
     refine wp_ret ?_
     try simp only [Exit.then]
     have b162 := bt b94 hb149
     have b163 := bt b162 hb157
     have b164 := bt b163 hb160
     exact bodyPost_ret (res_one Try.results6 rfl) rfl ⟨rfl, b164⟩
    have rd165 := hRC.to b94
    refine lz (ow_call (fun v w' => v = .bool false ∧ Below W58.heap.size W58 w') (by exact xk Try.func20) ((right4_any C p W58 rd165 (by omega)).mono fun e w' h => ⟨_, h.1, by rw [decide_eq_false q146], h.2⟩) ?_)
    rintro _ W166 ⟨rfl, hb167⟩
    have z168 := hb167.size
    simp only [lay]
    refine lv (.bool false) (by exact xp (b := false)) ?_
    simp only [lay]
    refine lv (.bool false) (by exact xp (b := true)) ?_
    simp only [lay]
    refine lv (.bool false) (by exact xm) ?_
    simp only [lay]
    refine lzn ?_
    simp only [lay]
    refine lzn ?_
    simp only [lay]
    refine lzn ?_
    simp only [lay]
    refine lv (.bool false) (by exact xp (b := false)) ?_
    simp only [lay]
    refine wn ?_
    refine wp_cond_false (by exact rfl) ?_
    refine wp_skip ?_
    change Code.wp _ _ _ _ _
    refine wp_sr ?_
    refine lz (ow_call (fun v w' => v = .bool true ∧ Below W166.heap.size W166 w') (by exact xk Try.func13) ((alive17_any W166).mono fun e w' h => ⟨_, h.1, rfl, h.2⟩) ?_)
    rintro _ W169 ⟨rfl, hb170⟩
    have z171 := hb170.size
    simp only [lay]
    refine lv (.bool true) (by exact xa) ?_
    simp only [lay]
    refine wn ?_
    refine wp_ret ?_
    try simp only [Exit.then]
    have b172 := bt b94 hb167
    have b173 := bt b172 hb170
    exact bodyPost_ret (res_one Try.results6 rfl) rfl ⟨rfl, b173⟩
   refine lv (.bool false) (by exact ex_geq (by exact rfl) (by exact rfl) (by exact rfl) (decide_eq_false (by first | assumption | omega | decide))) ?_
   simp only [lay]
   refine lv (.bool false) (by exact xp (b := true)) ?_
   simp only [lay]
   refine lv (.bool false) (by exact xm) ?_
   simp only [lay]
   refine lzn ?_
   simp only [lay]
   refine lzn ?_
   simp only [lay]
   refine lzn ?_
   simp only [lay]
   refine lzn ?_
   simp only [lay]
   refine lzn ?_
   simp only [lay]
   refine lv (.bool false) (by exact xp (b := false)) ?_
   simp only [lay]
   refine lv (.bool false) (by exact xm) ?_
   simp only [lay]
   refine lzn ?_
   simp only [lay]
   refine lzn ?_
   simp only [lay]
   refine lzn ?_
   simp only [lay]
   refine lzn ?_
   simp only [lay]
   refine lzn ?_
   simp only [lay]
   refine lv (.bool false) (by exact xp (b := false)) ?_
   simp only [lay]
   refine lv (.bool false) (by exact xa) ?_
   simp only [lay]
   refine wn ?_
   refine wp_seq ?_
   refine wp_sr ?_
   refine lv (.pointer (some ⟨g1, 6, none⟩)) (by exact xf 6 0 Try.underlying27) ?_
   simp only [lay]
   refine lv (.int .u8 C.proto) (by exact xc Try.underlying5 (has67.cell 6 rfl)) ?_
   simp only [lay]
   refine lv (.bool false) (by exact yqn) ?_
   simp only [lay]
   refine wn ?_
   refine wp_cond_false (by exact rfl) ?_
   refine wp_skip ?_
   change Code.wp _ _ _ _ _
   refine wp_seq ?_
   refine wp_sr ?_
   refine lv (.pointer (some ⟨g1, 6, none⟩)) (by exact xf 6 0 Try.underlying27) ?_
   simp only [lay]
   refine lv (.int .u8 C.proto) (by exact xc Try.underlying5 (has67.cell 6 rfl)) ?_
   simp only [lay]
   refine lv (.bool false) (by exact yqn) ?_
   simp only [lay]
   refine lv (.bool false) (by exact xm) ?_
   simp only [lay]
   refine lv (.pointer (some ⟨g1, 6, none⟩)) (by exact xf 6 0 Try.underlying27) ?_
   simp only [lay]
   refine lv (.int .u8 C.proto) (by exact xc Try.underlying5 (has67.cell 6 rfl)) ?_
   simp only [lay]
   refine lv (.bool true) (by exact yq) ?_
   simp only [lay]
   refine lv (.bool true) (by exact xp (b := false)) ?_
   simp only [lay]
   refine lv (.bool true) (by exact xm) ?_
   simp only [lay]
   refine lv (.bool false) (by exact xm) ?_
   simp only [lay]
   refine lv (.bool false) (by exact xm) ?_
   simp only [lay]
   refine lv (.agg (C.cells p)) (by exact xo (has67.load (P := Try.prog) 27 Try.underlying27 rfl (by kernel_rfl))) ?_
   simp only [lay]
   by_cases q177 : sumw (pse4r C.src C.dst (C.bl.length : Int) C.proto ++ C.bl) = 65535
   case pos =>
    have b178 := bt b44 hb47
    have b179 := bt b178 hb56
    have l180 := lq b178 ge54
    have b181 := b179.trans (hb61.mono l180)
    have rd182 := hRC.to b181
    refine lz (ow_call (fun v w' => v = .bool true ∧ Below W58.heap.size W58 w') (by exact xk Try.func20) ((right4_any C p W58 rd182 (by omega)).mono fun e w' h => ⟨_, h.1, by rw [decide_eq_true q177], h.2⟩) ?_)
    rintro _ W183 ⟨rfl, hb184⟩
    have z185 := hb184.size
    simp only [lay]
    refine lv (.bool true) (by exact xp (b := false)) ?_
    simp only [lay]
    refine lv (.bool true) (by exact xp (b := true)) ?_
    simp only [lay]
    refine lv (.bool true) (by exact xm) ?_
    simp only [lay]
    have has186 := hg59.to hb184
    refine lv (.agg (PD.cells p48)) (by exact xo (has186.load (P := Try.prog) 36 Try.underlying36 rfl (by kernel_rfl))) ?_
    simp only [lay]
    have l187 : W46.heap.size ≤ g51 := Nat.le_of_eq ge54.symm
    have b188 := hb56.trans (hb61.mono l187)
    have b189 := bt b188 hb184
    have own6190 := ho49.to b189
    have hy := right17_seg (s' := s') (t' := t') hRC.ok hE.s hE.t hE.sL hE.tL hRC.body.rng (hPE.trans (by assumption)) (by omega) (by assumption) (by omega) (.inr (by assumption))
    rw [hPD] at hy
    obtain ⟨hp1, hp2, hp3⟩ := pack17_at (hPE.trans (by assumption))
    rw [hPD] at hp1 hp2 hp3
    refine lz (ow_call (fun v w' => v = .bool true ∧ Below W183.heap.size W183 w') (by exact xk Try.func19) ((right6_any PD _ W183 own6190.rd hp1).mono fun e w' h => ⟨_, h.1, by rw [hp2, hp3, decide_eq_true hy], h.2⟩) ?_)
    rintro _ W191 ⟨rfl, hb192⟩
    have z193 := hb192.size
    simp only [lay]
    refine lv (.bool false) (by exact ex_not (b := true) (by exact rfl) (by exact rfl)) ?_
    simp only [lay]
    refine lv (.bool false) (by exact xp (b := true)) ?_
    simp only [lay]
    refine wn ?_
    refine wp_cond_false (by exact rfl) ?_
    refine wp_skip ?_
    change Code.wp _ _ _ _ _
    refine wp_sr ?_
    refine lz (ow_call (fun v w' => v = .bool true ∧ Below W191.heap.size W191 w') (by exact xk Try.func13) ((alive17_any W191).mono fun e w' h => ⟨_, h.1, rfl, h.2⟩) ?_)
    rintro _ W194 ⟨rfl, hb195⟩
    have z196 := hb195.size
    simp only [lay]
    refine lv (.bool true) (by exact xa) ?_
    simp only [lay]
    refine wn ?_
    refine wp_ret ?_
    try simp only [Exit.then]
    have b197 := bt b181 hb184
    have b198 := bt b197 hb192
    have b199 := bt b198 hb195
    exact bodyPost_ret (res_one Try.results6 rfl) rfl ⟨rfl, b199⟩
   have b200 := bt b44 hb47
   have b201 := bt b200 hb56
   have l202 := lq b200 ge54
   have b203 := b201.trans (hb61.mono l202)
   have rd204 := hRC.to b203
   refine lz (ow_call (fun v w' => v = .bool false ∧ Below W58.heap.size W58 w') (by exact xk Try.func20) ((right4_any C p W58 rd204 (by omega)).mono fun e w' h => ⟨_, h.1, by rw [decide_eq_false q177], h.2⟩) ?_)
   rintro _ W205 ⟨rfl, hb206⟩
   have z207 := hb206.size
   simp only [lay]
   refine lv (.bool false) (by exact xp (b := false)) ?_
   simp only [lay]
   refine lv (.bool false) (by exact xp (b := true)) ?_
   simp only [lay]
   refine lv (.bool false) (by exact xm) ?_
   simp only [lay]
   refine lzn ?_
   simp only [lay]
   refine lzn ?_
   simp only [lay]
   refine lzn ?_
   simp only [lay]
   refine lv (.bool false) (by exact xp (b := false)) ?_
   simp only [lay]
   refine wn ?_
   refine wp_cond_false (by exact rfl) ?_
   refine wp_skip ?_
   change Code.wp _ _ _ _ _
   refine wp_sr ?_
   refine lz (ow_call (fun v w' => v = .bool true ∧ Below W205.heap.size W205 w') (by exact xk Try.func13) ((alive17_any W205).mono fun e w' h => ⟨_, h.1, rfl, h.2⟩) ?_)
   rintro _ W208 ⟨rfl, hb209⟩
   have z210 := hb209.size
   simp only [lay]
   refine lv (.bool true) (by exact xa) ?_
   simp only [lay]
   refine wn ?_
   refine wp_ret ?_
   try simp only [Exit.then]
   have b211 := bt b203 hb206
   have b212 := bt b211 hb209
   exact bodyPost_ret (res_one Try.results6 rfl) rfl ⟨rfl, b212⟩
  refine lv (.bool false) (by exact yqn) ?_
  simp only [lay]
  refine lv (.bool false) (by exact xm) ?_
  simp only [lay]
  refine lzn ?_
  simp only [lay]
  refine lzn ?_
  simp only [lay]
  refine lzn ?_
  simp only [lay]
  refine lzn ?_
  simp only [lay]
  refine lv (.bool false) (by exact xp (b := false)) ?_
  simp only [lay]
  refine lv (.bool false) (by exact xm) ?_
  simp only [lay]
  refine lzn ?_
  simp only [lay]
  refine lzn ?_
  simp only [lay]
  refine lzn ?_
  simp only [lay]
  refine lzn ?_
  simp only [lay]
  refine lzn ?_
  simp only [lay]
  refine lv (.bool false) (by exact xp (b := false)) ?_
  simp only [lay]
  refine lv (.bool false) (by exact xm) ?_
  simp only [lay]
  refine lzn ?_
  simp only [lay]
  refine lzn ?_
  simp only [lay]
  refine lzn ?_
  simp only [lay]
  refine lzn ?_
  simp only [lay]
  refine lzn ?_
  simp only [lay]
  refine lv (.bool false) (by exact xp (b := false)) ?_
  simp only [lay]
  refine lv (.bool false) (by exact xa) ?_
  simp only [lay]
  refine wn ?_
  refine wp_seq ?_
  refine wp_sr ?_
  refine lv (.pointer (some ⟨g1, 6, none⟩)) (by exact xf 6 0 Try.underlying27) ?_
  simp only [lay]
  refine lv (.int .u8 C.proto) (by exact xc Try.underlying5 (has67.cell 6 rfl)) ?_
  simp only [lay]
  by_cases q213 : C.proto = 1
  case pos =>
   refine lv (.bool true) (by exact yq) ?_
   simp only [lay]
   refine wn ?_
   refine wp_cond_true (by exact rfl) ?_
   refine wp_sr ?_
   refine lv (.agg (PD.cells p48)) (by exact xo (hg59.load (P := Try.prog) 36 Try.underlying36 rfl (by kernel_rfl))) ?_
   simp only [lay]
   have l214 : W46.heap.size ≤ g51 := Nat.le_of_eq ge54.symm
   have b215 := hb56.trans (hb61.mono l214)
   have own6216 := ho49.to b215
   have hy := right17_icmp (s' := s') (t' := t') hE hRC.body.rng (hPE.trans (by assumption)) (by rw [hPD]; exact own6216.rd.body.rng) (by assumption)
   rw [hPD] at hy
   obtain ⟨hp1, hp2, hp3⟩ := pack17_at (hPE.trans (by assumption))
   rw [hPD] at hp1 hp2 hp3
   refine lz (ow_call (fun v w' => v = .bool true ∧ Below W58.heap.size W58 w') (by exact xk Try.func19) ((right6_any PD _ W58 own6216.rd hp1).mono fun e w' h => ⟨_, h.1, by rw [hp2, hp3, decide_eq_true hy], h.2⟩) ?_)
   rintro _ W217 ⟨rfl, hb218⟩
   have z219 := hb218.size
   simp only [lay]
   refine lv (.bool true) (by exact xm) ?_
   simp only [lay]
   refine lz (ow_call (fun v w' => v = .bool true ∧ Below W217.heap.size W217 w') (by exact xk Try.func13) ((alive17_any W217).mono fun e w' h => ⟨_, h.1, rfl, h.2⟩) ?_)
   rintro _ W220 ⟨rfl, hb221⟩
   have z222 := hb221.size
   simp only [lay]
   refine lv (.bool true) (by exact xp (b := true)) ?_
   simp only [lay]
   refine lv (.bool true) (by exact xa) ?_
   simp only [lay]
   refine wn ?_
   refine wp_ret ?_
   try simp only [Exit.then]
   have b223 := bt b44 hb47
   have b224 := bt b223 hb56
   have l225 := lq b223 ge54
   have b226 := b224.trans (hb61.mono l225)
   have b227 := bt b226 hb218
   have b228 := bt b227 hb221
   exact bodyPost_ret (res_one Try.results6 rfl) rfl ⟨rfl, b228⟩
  refine lv (.bool false) (by exact yqn) ?_
  simp only [lay]
  refine wn ?_
  refine wp_cond_false (by exact rfl) ?_
  refine wp_skip ?_
  change Code.wp _ _ _ _ _
  refine wp_seq ?_
  refine wp_sr ?_
  refine lv (.pointer (some ⟨g1, 6, none⟩)) (by exact xf 6 0 Try.underlying27) ?_
  simp only [lay]
  refine lv (.int .u8 C.proto) (by exact xc Try.underlying5 (has67.cell 6 rfl)) ?_
  simp only [lay]
  by_cases q229 : C.proto = 6
  case pos =>
   refine lv (.bool true) (by exact yq) ?_
   simp only [lay]
   refine lv (.bool true) (by exact xm) ?_
   simp only [lay]
   refine lzn ?_
   simp only [lay]
   refine lzn ?_
   simp only [lay]
   refine lzn ?_
   simp only [lay]
   refine lv (.bool true) (by exact xp (b := true)) ?_
   simp only [lay]
   refine lv (.bool true) (by exact xm) ?_
   simp only [lay]
   refine lv (.bool false) (by exact xm) ?_
   simp only [lay]
   refine lv (.bool false) (by exact xm) ?_
   simp only [lay]
   refine lv (.agg (C.cells p)) (by exact xo (has67.load (P := Try.prog) 27 Try.underlying27 rfl (by kernel_rfl))) ?_
   simp only [lay]
   by_cases q230 : sumw (pse4r C.src C.dst (C.bl.length : Int) C.proto ++ C.bl) = 65535
   case pos =>
    have b231 := bt b44 hb47
    have b232 := bt b231 hb56
    have l233 := lq b231 ge54
    have b234 := b232.trans (hb61.mono l233)
    have rd235 := hRC.to b234
    refine lz (ow_call (fun v w' => v = .bool true ∧ Below W58.heap.size W58 w') (by exact xk Try.func20) ((right4_any C p W58 rd235 (by omega)).mono fun e w' h => ⟨_, h.1, by rw [decide_eq_true q230], h.2⟩) ?_)
    rintro _ W236 ⟨rfl, hb237⟩
    have z238 := hb237.size
    simp only [lay]
    refine lv (.bool true) (by exact xp (b := false)) ?_
    simp only [lay]
    refine lv (.bool true) (by exact xp (b := true)) ?_
    simp only [lay]
    refine lv (.bool true) (by exact xm) ?_
    simp only [lay]
    have has239 := hg59.to hb237
    refine lv (.agg (PD.cells p48)) (by exact xo (has239.load (P := Try.prog) 36 Try.underlying36 rfl (by kernel_rfl))) ?_
    simp only [lay]
    have l240 : W46.heap.size ≤ g51 := Nat.le_of_eq ge54.symm
    have b241 := hb56.trans (hb61.mono l240)
    have b242 := bt b241 hb237
    have own6243 := ho49.to b242
    have hy := right17_seg (s' := s') (t' := t') hRC.ok hE.s hE.t hE.sL hE.tL hRC.body.rng (hPE.trans (by assumption)) (by omega) (by assumption) (by omega) (.inr (by assumption))
    rw [hPD] at hy
    obtain ⟨hp1, hp2, hp3⟩ := pack17_at (hPE.trans (by assumption))
    rw [hPD] at hp1 hp2 hp3
    refine lz (ow_call (fun v w' => v = .bool true ∧ Below W236.heap.size W236 w') (by exact xk Try.func19) ((right6_any PD _ W236 own6243.rd hp1).mono fun e w' h => ⟨_, h.1, by rw [hp2, hp3, decide_eq_true hy], h.2⟩) ?_)
    rintro _ W244 ⟨rfl, hb245⟩
    have z246 := hb245.size
    simp only [lay]
    refine lv (.bool false) (by exact ex_not (b := true) (by exact rfl) (by exact rfl)) ?_
    simp only [lay]
    refine lv (.bool false) (by exact xp (b := true)) ?_
    simp only [lay]
    refine wn ?_
    refine wp_cond_false (by exact rfl) ?_
    refine wp_skip ?_
    change Code.wp _ _ _ _ _
    refine wp_sr ?_
    refine lz (ow_call (fun v w' => v = .bool true ∧ Below W244.heap.size W244 w') (by exact xk Try.func13) ((alive17_any W244).mono fun e w' h => ⟨_, h.1, rfl, h.2⟩) ?_)
    rintro _ W247 ⟨rfl, hb248⟩
    have z249 := hb248.size
    simp only [lay]
    refine lv (.bool true) (by exact xa) ?_
    simp only [lay]
    refine wn ?_
    refine wp_ret ?_
    try simp only [Exit.then]
    have b250 := bt b234 hb237
    have b251 := bt b250 hb245
    have b252 := bt b251 hb248
    exact bodyPost_ret (res_one Try.results6 rfl) rfl ⟨rfl, b252⟩
   have b253 := bt b44 hb47
   have b254 := bt b253 hb56
   have l255 := lq b253 ge54
   have b256 := b254.trans (hb61.mono l255)
   have rd257 := hRC.to b256
   refine lz (ow_call (fun v w' => v = .bool false ∧ Below W58.heap.size W58 w') (by exact xk Try.func20) ((right4_any C p W58 rd257 (by omega)).mono fun e w' h => ⟨_, h.1, by rw [decide_eq_false q230], h.2⟩) ?_)
   rintro _ W258 ⟨rfl, hb259⟩
   have z260 := hb259.size
   simp only [lay]
   refine lv (.bool false) (by exact xp (b := false)) ?_
   simp only [lay]
   refine lv (.bool false) (by exact xp (b := true)) ?_
   simp only [lay]
   refine lv (.bool false) (by exact xm) ?_
   simp only [lay]
   refine lzn ?_
   simp only [lay]
   refine lzn ?_
   simp only [lay]
   refine lzn ?_
   simp only [lay]
   refine lv (.bool false) (by exact xp (b := false)) ?_
   simp only [lay]
   refine wn ?_
   refine wp_cond_false (by exact rfl) ?_
   refine wp_skip ?_
   change Code.wp _ _ _ _ _
   refine wp_sr ?_
   refine lz (ow_call (fun v w' => v = .bool true ∧ Below W258.heap.size W258 w') (by exact xk Try.func13) ((alive17_any W258).mono fun e w' h => ⟨_, h.1, rfl, h.2⟩) ?_)
   rintro _ W261 ⟨rfl, hb262⟩
   have z263 := hb262.size
   simp only [lay]
   refine lv (.bool true) (by exact xa) ?_
   simp only [lay]
   refine wn ?_
   refine wp_ret ?_
   try simp only [Exit.then]
   have b264 := bt b256 hb259
   have b265 := bt b264 hb262
   exact bodyPost_ret (res_one Try.results6 rfl) rfl ⟨rfl, b265⟩
  refine lv (.bool false) (by exact yqn) ?_
  simp only [lay]
  refine lv (.bool false) (by exact xm) ?_
  simp only [lay]
  refine lv (.pointer (some ⟨g1, 6, none⟩)) (by exact xf 6 0 Try.underlying27) ?_
  simp only [lay]
  refine lv (.int .u8 C.proto) (by exact xc Try.underlying5 (has67.cell 6 rfl)) ?_
  simp only [lay]
  refine lv (.bool false) (by exact yqn) ?_
  simp only [lay]
  refine lv (.bool false) (by exact xp (b := false)) ?_
  simp only [lay]
  refine lv (.bool false) (by exact xm) ?_
  simp only [lay]
  refine lzn ?_
  simp only [lay]
  refine lzn ?_
  simp only [lay]
  refine lzn ?_
  simp only [lay]
  refine lzn ?_
  simp only [lay]
  refine lzn ?_
  simp only [lay]
  refine lv (.bool false) (by exact xp (b := false)) ?_
  simp only [lay]
  refine lv (.bool false) (by exact xm) ?_
  simp only [lay]
  refine lzn ?_
  simp only [lay]
  refine lzn ?_
  simp only [lay]
  refine lzn ?_
  simp only [lay]
  refine lv (.bool false) (by exact xp (b := false)) ?_
  simp only [lay]
  refine wn ?_
  refine wp_cond_false (by exact rfl) ?_
  refine wp_skip ?_
  change Code.wp _ _ _ _ _
  refine wp_sr ?_
  refine lz (ow_call (fun v w' => v = .bool true ∧ Below W58.heap.size W58 w') (by exact xk Try.func13) ((alive17_any W58).mono fun e w' h => ⟨_, h.1, rfl, h.2⟩) ?_)
  rintro _ W267 ⟨rfl, hb268⟩
  have z269 := hb268.size
  simp only [lay]
  refine lv (.bool true) (by exact xa) ?_
  simp only [lay]
  refine wn ?_
  refine wp_ret ?_
  try simp only [Exit.then]
  have b270 := bt b44 hb47
  have b271 := bt b270 hb56
  have l272 := lq b270 ge54
  have b273 := b271.trans (hb61.mono l272)
  have b274 := bt b273 hb268
  exact bodyPost_ret (res_one Try.results6 rfl) rfl ⟨rfl, b274⟩
 refine lv (.bool true) (by exact neq_int_ne (by exact rfl) (by exact rfl) (by exact rfl) (by first | assumption | omega)) ?_
 simp only [lay]
 refine lv (.bool true) (by exact xm) ?_
 simp only [lay]
 refine lzn ?_
 simp only [lay]
 refine lzn ?_
 simp only [lay]
 refine lv (.bool true) (by exact xp (b := true)) ?_
 simp only [lay]
 refine lv (.bool true) (by exact xm) ?_
 simp only [lay]
 refine lzn ?_
 simp only [lay]
 refine lzn ?_
 simp only [lay]
 refine lzn ?_
 simp only [lay]
 refine lv (.bool true) (by exact xp (b := true)) ?_
 simp only [lay]
 refine wn ?_
 refine wp_cond_true (by exact rfl) ?_
 refine wp_sr ?_
 refine lz (ow_call (fun v w' => v = .bool true ∧ Below W58.heap.size W58 w') (by exact xk Try.func13) ((alive17_any W58).mono fun e w' h => ⟨_, h.1, rfl, h.2⟩) ?_)
 rintro _ W275 ⟨rfl, hb276⟩
 have z277 := hb276.size
 simp only [lay]
 refine lv (.bool true) (by exact xa) ?_
 simp only [lay]
 refine wn ?_
 refine wp_ret ?_
 try simp only [Exit.then]
 have b278 := bt b44 hb47
 have b279 := bt b278 hb56
 have l280 := lq b278 ge54
 have b281 := b279.trans (hb61.mono l280)
 have b282 := bt b281 hb276
 exact bodyPost_ret (res_one Try.results6 rfl) rfl ⟨rfl, b282⟩
end Go.Proofs.Ytijnifbpbgckgaa
