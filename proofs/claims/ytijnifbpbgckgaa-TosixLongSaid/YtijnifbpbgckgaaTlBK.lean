/-
  Lemmas and walks for the row of TosixLong (part 37 of 37).
-/
import Derived.Test.YtijnifbpbgckgaaTlAG
import Derived.Test.YtijnifbpbgckgaaTlBJ
set_option linter.unusedVariables false
set_option linter.unusedSimpArgs false
namespace Go.Proofs.Ytijnifbpbgckgaa
open Go.RowKit Go.Shelf
attribute [local irreducible] wpList Code.wp Oper.wp wpOp wpAnyH

theorem pack17_none {d : D4} {s t s' t' : List Int} (h : ¬ (pack17 d s t s' t').2 = 0) : (pack17 d s t s' t').1 = zero6 := by
 revert h
 unfold pack17
 repeat' split
 all_goals (intro h; first | rfl | exact absurd rfl h)
theorem pack17_ttl {d : D4} {s t s' t' : List Int} (h : (pack17 d s t s' t').2 = 0) : (pack17 d s t s' t').1.hop = d.ttl := by rw [(pack17_ok h).2.2.1]; rfl
theorem D6.all_of {d : D6} (h : d.check = 0) {n : Int} (hn : (d.ahead : Int) + d.bl.length = n) : d.all = n := by unfold D6.all; rw [if_pos h]; exact hn
theorem ex_eq_a16 {ρ : Operand → Value} {o : Oper} {z : TypeId} {x y : Operand} {w : World} (a b : List Int) (ho : o.op = .binOp .eql 29 x y z) (hx : ρ x = .agg (u8s (l16 a)).toArray) (hy : ρ y = .agg (u8s (l16 b)).toArray) (h : a = b) : (execOp ρ o).run Try.prog w = .ok (.value (.bool true)) w :=
 ex_eq_arrN (n := 16) (a := l16 a) (b := l16 b) ho Try.underlying29 Try.underlying5 (by kernel_rfl) (by kernel_rfl) hx hy rfl rfl (by rw [h]; simp)

set_option maxRecDepth 100000 in
set_option maxHeartbeats 8000000 in
theorem long17_walk (d : D4) (p : W4) (s t s' t' : List Int) (w : World) (hR : Rd4 w.heap.size w d p) (hE : E6ok s t) (hE' : E6ok s' t') :
  Calls Try.prog 7 #[.agg (d.cells p), .agg (ends6 s t), .agg (ends6 s' t')] w fun e w' => e = .returned (.bool true) ∧ Below w.heap.size w w' := by
 obtain ⟨C, hC⟩ : ∃ x, cut17 d = x := ⟨_, rfl⟩
 have hRC := cut17_rd hR
 rw [hC] at hRC
 have yoC := hRC.opt
 have ybC := hRC.body
 obtain ⟨PD, hPD⟩ : ∃ x, (pack17 C s t s' t').1 = x := ⟨_, rfl⟩
 obtain ⟨PE, hPE⟩ : ∃ x, (pack17 C s t s' t').2 = x := ⟨_, rfl⟩
 obtain ⟨M, hM⟩ : ∃ x, parse7 C.bl [] = x := ⟨_, rfl⟩
 obtain ⟨FE, hFE⟩ : ∃ x, perr7 C.bl [] = x := ⟨_, rfl⟩
 go_enter Try.func7, Try.ntmps7
 refine wp_sr ?_
 refine lz (ow_box 27 (.tmp 0) _ rfl rfl ?_)
 intro g1 W2 hg3 ge4 sz5 hb6
 have z7 := hb6.size
 simp only [lay]
 refine lz (ow_box 31 (.tmp 1) _ rfl rfl ?_)
 intro g8 W9 hg10 ge11 sz12 hb13
 have z14 := hb13.size
 simp only [lay]
 refine lz (ow_box 31 (.tmp 2) _ rfl rfl ?_)
 intro g15 W16 hg17 ge18 sz19 hb20
 have z21 := hb20.size
 simp only [lay]
 refine lv (.bool false) (by exact xa) ?_
 simp only [lay]
 refine wn ?_
 refine wp_sr ?_
 have b22 := bt hb13 hb20
 have has23 := hg3.to b22
 refine lv (.agg (d.cells p)) (by exact xo (has23.load (P := Try.prog) 27 Try.underlying27 rfl (by kernel_rfl))) ?_
 simp only [lay]
 have b24 := bt hb6 hb13
 have b25 := bt b24 hb20
 have rd26 := hR.to b25
 refine lz (ow_call (fun v w' => v = .agg (C.cells p) ∧ Below W16.heap.size W16 w') (by exact xk Try.func9) ((cut17_any d p W16 rd26).mono fun e w' h => ⟨_, h.1, by rw [hC], h.2⟩) ?_)
 rintro _ W27 ⟨rfl, hb28⟩
 have z29 := hb28.size
 simp only [lay]
 have b34 := bt b22 hb28
 have has35 := hg3.to b34
 refine lz (ow_st 27 (.tmp 3) (.tmp 16) g1 (C.cells p) _ _ rfl (by exact rfl) (by exact rfl) has35 (by kernel_rfl) rfl (by kernel_rfl) ?_)
 intro W30 hg31 bs32 hb33
 have b36 := bt hb20 hb28
 have has37 := hg10.to b36
 have has38 := hg17.to hb28
 have z39 := hb33.size
 have has40 := has37.but6 bs32 (by omega)
 have has41 := has38.but6 bs32 (by omega)
 simp only [lay]
 refine wn ?_
 refine wp_sr ?_
 refine lv (.agg (C.cells p)) (by exact xo (hg31.load (P := Try.prog) 27 Try.underlying27 rfl (by kernel_rfl))) ?_
 simp only [lay]
 refine lv (.agg (ends6 s t)) (by exact xo (has40.load (P := Try.prog) 31 Try.underlying31 rfl (by kernel_rfl))) ?_
 simp only [lay]
 refine lv (.agg (ends6 s' t')) (by exact xo (has41.load (P := Try.prog) 31 Try.underlying31 rfl (by kernel_rfl))) ?_
 simp only [lay]
 have b42 := bt b25 hb28
 have l43 : w.heap.size ≤ g1 := Nat.le_of_eq ge4.symm
 have b44 := b42.trans (hb33.mono l43)
 have rd45 := hRC.to b44
 refine lz (ow_call (fun v w' => (∃ q, v = .tuple #[.agg (PD.cells q), .int .i64 PE] ∧ Own6 w' W30.heap.size PD q) ∧ Below W30.heap.size W30 w') (by exact xk Try.func10) ((pack17_any C p s t s' t' hE hE' W30 rd45).mono (by rintro e w' ⟨⟨q, rfl, ho⟩, hb⟩; rw [hPD] at ho; exact ⟨_, rfl, ⟨q, by rw [hPD, hPE], ho⟩, hb⟩)) ?_)
 rintro _ W46 ⟨⟨p48, rfl, ho49⟩, hb47⟩
 have z50 := hb47.size
 simp only [lay]
 refine lv (.tuple #[.agg (PD.cells p48), .int .i64 PE]) (by exact xm) ?_
 simp only [lay]
 refine lv (.agg (PD.cells p48)) (by exact xe) ?_
 simp only [lay]
 refine lv (.int .i64 PE) (by exact xe) ?_
 simp only [lay]
 refine lz (oa #[.int .u8 0, .int .u32 0, .int .u8 0, .int .u8 0, .int .u8 0, .int .u8 0, .int .u8 0, .int .u8 0, .int .u8 0, .int .u8 0, .int .u8 0, .int .u8 0, .int .u8 0, .int .u8 0, .int .u8 0, .int .u8 0, .int .u8 0, .int .u8 0, .int .u8 0, .int .u8 0, .int .u8 0, .int .u8 0, .int .u8 0, .int .u8 0, .int .u8 0, .int .u8 0, .int .u8 0, .int .u8 0, .int .u8 0, .int .u8 0, .int .u8 0, .int .u8 0, .int .u8 0, .int .u8 0, .int .u8 0, .slice none 0 0, .bool false, .int .u32 0, .int .i64 0, .bool false, .int .u8 0, .slice none 0 0] ?_)
 intro g51 W52 hg53 ge54 sz55 hb56
 have z57 := hb56.size
 simp only [lay]
 refine lz (ow_st 36 (.tmp 7) (.tmp 22) g51 (PD.cells p48) _ _ rfl (by exact rfl) (by exact rfl) hg53 (by kernel_rfl) rfl (by kernel_rfl) ?_)
 intro W58 hg59 bs60 hb61
 have z62 := hb61.size
 simp only [lay]
 refine lv (.int .i64 PE) (by exact xa) ?_
 simp only [lay]
 refine wn ?_
 refine wp_seq ?_
 refine wp_sr ?_
 refine lv (.int .i64 PE) (by exact xm) ?_
 simp only [lay]
 by_cases q63 : PE = 0
 case pos =>
  have hbl := (D4.ok_of_check (pack17_ok (hPE.trans q63)).1).2.2.2
  refine lv (.bool false) (by exact neq_int_eq (by exact rfl) (by exact rfl) (by exact rfl) (by first | assumption | omega)) ?_
  simp only [lay]
  refine wn ?_
  refine wp_cond_false (by exact rfl) ?_
  refine wp_skip ?_
  change Code.wp _ _ _ _ _
  refine wp_sr ?_
  refine lv (.pointer (some ⟨g1, 16, none⟩)) (by exact xf 16 0 Try.underlying27) ?_
  simp only [lay]
  have b64 := bt hb47 hb56
  have l65 := lq hb47 ge54
  have b66 := b64.trans (hb61.mono l65)
  have has67 := hg31.to b66
  refine lv (.slice p.bA C.bl.length p.bc) (by exact xc Try.underlying25 (has67.cell 16 rfl)) ?_
  simp only [lay]
  have b68 := bt b44 hb47
  have b69 := bt b68 hb56
  have l70 := lq b68 ge54
  have b71 := b69.trans (hb61.mono l70)
  have by72 := ybC.to b71
  refine lz (ow_call (fun v w' => (∃ A' c', v = .tuple #[.agg (M.cells A' c'), .int .i64 FE] ∧ M.ok ∧ OwnB w' W58.heap.size (.slice A' M.bl.length c') M.bl) ∧ Below W58.heap.size W58 w') (by exact xk Try.func21) ((rparse4m_any _ _ _ _ W58 by72).mono (by rintro e w' ⟨⟨A', c', rfl, hk, ho⟩, hb⟩; rw [hM] at hk ho; exact ⟨_, rfl, ⟨A', c', by rw [hM, hFE], hk, ho⟩, hb⟩)) ?_)
  rintro _ W73 ⟨⟨A75, c76, rfl, hk77, hO78⟩, hb74⟩
  have z79 := hb74.size
  simp only [lay]
  refine lv (.tuple #[.agg (M.cells A75 c76), .int .i64 FE]) (by exact xm) ?_
  simp only [lay]
  refine lv (.agg (M.cells A75 c76)) (by exact xe) ?_
  simp only [lay]
  refine lv (.int .i64 FE) (by exact xe) ?_
  simp only [lay]
  refine lz (oa #[.int .u8 0, .int .u8 0, .int .u32 0, .slice none 0 0] ?_)
  intro g80 W81 hg82 ge83 sz84 hb85
  have z86 := hb85.size
  simp only [lay]
  refine lz (ow_st 46 (.tmp 9) (.tmp 36) g80 (M.cells A75 c76) _ _ rfl (by exact rfl) (by exact rfl) hg82 (by kernel_rfl) rfl (by kernel_rfl) ?_)
  intro W87 hg88 bs89 hb90
  have z91 := hb90.size
  simp only [lay]
  refine lv (.int .i64 FE) (by exact xa) ?_
  simp only [lay]
  refine wn ?_
  refine wp_seq ?_
  refine wp_sr ?_
  refine lv (.pointer (some ⟨g1, 6, none⟩)) (by exact xf 6 0 Try.underlying27) ?_
  simp only [lay]
  have b92 := bt b66 hb74
  have b93 := bt b92 hb85
  have l94 := lq b92 ge83
  have b95 := b93.trans (hb90.mono l94)
  have has96 := hg31.to b95
  refine lv (.int .u8 C.proto) (by exact xc Try.underlying5 (has96.cell 6 rfl)) ?_
  simp only [lay]
  by_cases q97 : C.proto = 1
  case pos =>
   refine lv (.bool true) (by exact yq) ?_
   simp only [lay]
   refine lv (.bool true) (by exact xm) ?_
   simp only [lay]
   refine lv (.int .i64 FE) (by exact xm) ?_
   simp only [lay]
   have hf0 : FE = 0 := by rw [← hFE]; exact long17_icmp (hPE.trans (by assumption)) (by assumption)
   refine lv (.bool false) (by exact neq_int_eq (by exact rfl) (by exact rfl) (by exact rfl) hf0) ?_
   simp only [lay]
   refine lv (.bool false) (by exact xm) ?_
   simp only [lay]
   refine lv (.agg (M.cells A75 c76)) (by exact xo (hg88.load (P := Try.prog) 46 Try.underlying46 rfl (by kernel_rfl))) ?_
   simp only [lay]
   refine lz (ow_call (fun v w' => v = .int .i64 (kind4 M.ty M.code) ∧ Below W87.heap.size W87 w') (by exact xk Try.func23) ((rkind4_any M _ _ W87).mono (by rintro e w' ⟨⟨q, rfl, hq⟩, hb⟩; exact ⟨_, rfl, by rw [hq.out], hb⟩)) ?_)
   rintro _ W98 ⟨rfl, hb99⟩
   have z100 := hb99.size
   simp only [lay]
   by_cases q101 : 3 ≤ kind4 M.ty M.code ∧ kind4 M.ty M.code ≤ 6
   case pos =>
    refine lz (ow_call (fun v w' => v = .bool true ∧ Below W98.heap.size W98 w') (by exact xk Try.func22) ((riserr_any _ W98).mono fun e w' h => ⟨_, h.1, by rw [decide_eq_true q101], h.2⟩) ?_)
    rintro _ W102 ⟨rfl, hb103⟩
    have z104 := hb103.size
    simp only [lay]
    refine lv (.bool true) (by exact xp (b := false)) ?_
    simp only [lay]
    refine lv (.bool true) (by exact xp (b := true)) ?_
    simp only [lay]
    refine wn ?_
    refine wp_cond_true (by exact rfl) ?_
    refine wp_sr ?_
    refine lv (.int .i64 FE) (by exact xm) ?_
    simp only [lay]
    refine lv (.bool true) (by exact yq (h := hf0)) ?_
    simp only [lay]
    refine lv (.bool true) (by exact xm) ?_
    simp only [lay]
    refine lz (ow_call (fun v w' => v = .bool true ∧ Below W102.heap.size W102 w') (by exact xk Try.func13) ((alive17_any W102).mono fun e w' h => ⟨_, h.1, rfl, h.2⟩) ?_)
    rintro _ W105 ⟨rfl, hb106⟩
    have z107 := hb106.size
    simp only [lay]
    refine lv (.bool true) (by exact xp (b := true)) ?_
    simp only [lay]
    refine lv (.bool true) (by exact xa) ?_
    simp only [lay]
    refine wn ?_
    refine wp_ret ?_
    try simp only [Exit.then]
    have b108 := bt b71 hb74
    have b109 := bt b108 hb85
    have l110 := lq b108 ge83
    have b111 := b109.trans (hb90.mono l110)
    have b112 := bt b111 hb99
    have b113 := bt b112 hb103
    have b114 := bt b113 hb106
    exact bodyPost_ret (res_one Try.results7 rfl) rfl ⟨rfl, b114⟩
   refine lz (ow_call (fun v w' => v = .bool false ∧ Below W98.heap.size W98 w') (by exact xk Try.func22) ((riserr_any _ W98).mono fun e w' h => ⟨_, h.1, by rw [decide_eq_false q101], h.2⟩) ?_)
   rintro _ W115 ⟨rfl, hb116⟩
   have z117 := hb116.size
   simp only [lay]
   refine lv (.bool false) (by exact xp (b := false)) ?_
   simp only [lay]
   refine lv (.bool false) (by exact xp (b := true)) ?_
   simp only [lay]
   refine wn ?_
   refine wp_cond_false (by exact rfl) ?_
   refine wp_skip ?_
   change Code.wp _ _ _ _ _
   refine wp_sr ?_
   have b118 := bt hb74 hb85
   have l119 := lq hb74 ge83
   have b120 := b118.trans (hb90.mono l119)
   have b121 := bt b120 hb99
   have b122 := bt b121 hb116
   have has123 := hg59.to b122
   refine lv (.agg (PD.cells p48)) (by exact xo (has123.load (P := Try.prog) 36 Try.underlying36 rfl (by kernel_rfl))) ?_
   simp only [lay]
   have l124 : W46.heap.size ≤ g51 := Nat.le_of_eq ge54.symm
   have b125 := hb56.trans (hb61.mono l124)
   have b126 := bt b125 hb74
   have b127 := bt b126 hb85
   have l128 := lq b126 ge83
   have b129 := b127.trans (hb90.mono l128)
   have b130 := bt b129 hb99
   have b131 := bt b130 hb116
   have own6132 := ho49.to b131
   obtain ⟨hz1, hz2⟩ := long17 (s' := s') (t' := t') (hPE.trans (by assumption)) (fun h => by first | exact absurd h (by assumption) | (rw [hM]; assumption))
   rw [hPD] at hz1 hz2
   obtain ⟨hp1, hp2, hp3⟩ := pack17_at (hPE.trans (by assumption))
   rw [hPD] at hp1 hp2 hp3
   have hp4 := pack17_ttl (hPE.trans (by assumption))
   rw [hPD] at hp4
   refine lz (ow_call (fun v w' => v = .tuple #[.int .i64 PD.all, .int .i64 PD.headI, .int .i64 0] ∧ Below W115.heap.size W115 w') (by exact xk Try.func24) ((rsize6_any PD _ W115 own6132.rd).mono (by rintro e w' ⟨⟨q, r, z, rfl, hq⟩, hb⟩; exact ⟨_, rfl, by rw [hq.out.1, hq.out.2.1, hq.out.2.2, hz1], hb⟩)) ?_)
   rintro _ W133 ⟨rfl, hb134⟩
   have z135 := hb134.size
   simp only [lay]
   refine lv (.tuple #[.int .i64 PD.all, .int .i64 PD.headI, .int .i64 0]) (by exact xm) ?_
   simp only [lay]
   refine lv (.int .i64 PD.all) (by exact xe) ?_
   simp only [lay]
   refine lv (.int .i64 PD.headI) (by exact xe) ?_
   simp only [lay]
   refine lv (.int .i64 0) (by exact xe) ?_
   simp only [lay]
   refine lv (.int .i64 PD.all) (by exact xa) ?_
   simp only [lay]
   refine lv (.int .i64 PD.headI) (by exact xa) ?_
   simp only [lay]
   refine lv (.int .i64 0) (by exact xa) ?_
   simp only [lay]
   refine wn ?_
   refine wp_sr ?_
   refine lv (.pointer (some ⟨g1, 16, none⟩)) (by exact xf 16 0 Try.underlying27) ?_
   simp only [lay]
   have b136 := bt b95 hb99
   have b137 := bt b136 hb116
   have b138 := bt b137 hb134
   have has139 := hg31.to b138
   refine lv (.slice p.bA C.bl.length p.bc) (by exact xc Try.underlying25 (has139.cell 16 rfl)) ?_
   simp only [lay]
   refine lv (.int .i64 (C.bl.length : Int)) (by exact xz Try.underlying25) ?_
   simp only [lay]
   refine lv (.int .i64 (40 + (C.bl.length : Int))) (by exact xb (b_add _ (40 + (C.bl.length : Int)) rfl (by omega) _)) ?_
   simp only [lay]
   refine lv (.int .i64 (40 + (C.bl.length : Int))) (by exact xa) ?_
   simp only [lay]
   refine wn ?_
   refine wp_seq ?_
   refine wp_sr ?_
   refine lv (.pointer (some ⟨g1, 3, none⟩)) (by exact xf 3 0 Try.underlying27) ?_
   simp only [lay]
   refine lv (.bool C.mf) (by exact xc Try.underlying4 (has139.cell 3 rfl)) ?_
   simp only [lay]
   refine lv (.bool C.mf) (by exact xm) ?_
   simp only [lay]
   by_cases q140 : C.mf = true
   case pos =>
    rw [q140]
    refine lzn ?_
    simp only [lay]
    refine lzn ?_
    simp only [lay]
    refine lzn ?_
    simp only [lay]
    refine lv (.bool true) (by exact xp (b := true)) ?_
    simp only [lay]
    refine wn ?_
    refine wp_cond_true (by exact rfl) ?_
    refine wp_region_lit ?_
    refine lv (.int .i64 (40 + (C.bl.length : Int))) (by exact xm) ?_
    simp only [lay]
    refine lv (.int .i64 (40 + (C.bl.length : Int) + 8)) (by exact xb (b_add _ (40 + (C.bl.length : Int) + 8) rfl (by omega) _)) ?_
    simp only [lay]
    refine lv (.int .i64 (40 + (C.bl.length : Int) + 8)) (by exact xa) ?_
    simp only [lay]
    refine wn ?_
    refine wp_sr ?_
    refine lv (.int .i64 0) (by exact xm) ?_
    simp only [lay]
    refine lv (.bool true) (by exact yq (h := (by decide))) ?_
    simp only [lay]
    refine lv (.bool true) (by exact xm) ?_
    simp only [lay]
    refine lv (.int .i64 PD.all) (by exact xm) ?_
    simp only [lay]
    refine lv (.int .i64 (40 + (C.bl.length : Int) + 8)) (by exact xm) ?_
    simp only [lay]
    have qp : C.part = true := by unfold D4.part; simp [*]; try omega
    rw [qp] at hz2
    have hln : PD.all = 40 + (C.bl.length : Int) + 8 := D6.all_of hz1 (by simp only [if_true, Bool.false_eq_true, if_false] at hz2; omega)
    refine lv (.bool true) (by exact yq (h := hln)) ?_
    simp only [lay]
    refine lv (.bool true) (by exact xp (b := true)) ?_
    simp only [lay]
    refine lv (.bool true) (by exact xm) ?_
    simp only [lay]
    refine lv (.pointer (some ⟨g51, 3, none⟩)) (by exact xf 3 15 Try.underlying36) ?_
    simp only [lay]
    have b141 := bt b122 hb134
    have has142 := hg59.to b141
    refine lv (.agg #[.int .u8 (PD.src.getD 0 0), .int .u8 (PD.src.getD 1 0), .int .u8 (PD.src.getD 2 0), .int .u8 (PD.src.getD 3 0), .int .u8 (PD.src.getD 4 0), .int .u8 (PD.src.getD 5 0), .int .u8 (PD.src.getD 6 0), .int .u8 (PD.src.getD 7 0), .int .u8 (PD.src.getD 8 0), .int .u8 (PD.src.getD 9 0), .int .u8 (PD.src.getD 10 0), .int .u8 (PD.src.getD 11 0), .int .u8 (PD.src.getD 12 0), .int .u8 (PD.src.getD 13 0), .int .u8 (PD.src.getD 14 0), .int .u8 (PD.src.getD 15 0)]) (by exact ex_loadAt (by exact rfl) (by exact rfl) (has142.loadIn (P := Try.prog) 3 [.int .u8 (PD.src.getD 0 0), .int .u8 (PD.src.getD 1 0), .int .u8 (PD.src.getD 2 0), .int .u8 (PD.src.getD 3 0), .int .u8 (PD.src.getD 4 0), .int .u8 (PD.src.getD 5 0), .int .u8 (PD.src.getD 6 0), .int .u8 (PD.src.getD 7 0), .int .u8 (PD.src.getD 8 0), .int .u8 (PD.src.getD 9 0), .int .u8 (PD.src.getD 10 0), .int .u8 (PD.src.getD 11 0), .int .u8 (PD.src.getD 12 0), .int .u8 (PD.src.getD 13 0), .int .u8 (PD.src.getD 14 0), .int .u8 (PD.src.getD 15 0)] (by kernel_rfl) 29 Try.underlying29 rfl (by kernel_rfl))) ?_
    simp only [lay]
    refine lv (.pointer (some ⟨g8, 0, none⟩)) (by exact xf 0 15 Try.underlying31) ?_
    simp only [lay]
    have has143 := has40.to b138
    refine lv (.agg (a16 s)) (by exact ex_loadAt (by exact rfl) (by exact rfl) (has143.loadIn (P := Try.prog) 0 (w16 s) (by kernel_rfl) 29 Try.underlying29 rfl (by kernel_rfl))) ?_
    simp only [lay]
    refine lv (.bool true) (by exact ex_eq_a16 PD.src s (by exact rfl) (by exact rfl) (by exact rfl) hp2) ?_
    simp only [lay]
    refine lv (.bool true) (by exact xp (b := true)) ?_
    simp only [lay]
    refine lv (.bool true) (by exact xm) ?_
    simp only [lay]
    refine lv (.pointer (some ⟨g51, 19, none⟩)) (by exact xf 19 15 Try.underlying36) ?_
    simp only [lay]
    refine lv (.agg #[.int .u8 (PD.dst.getD 0 0), .int .u8 (PD.dst.getD 1 0), .int .u8 (PD.dst.getD 2 0), .int .u8 (PD.dst.getD 3 0), .int .u8 (PD.dst.getD 4 0), .int .u8 (PD.dst.getD 5 0), .int .u8 (PD.dst.getD 6 0), .int .u8 (PD.dst.getD 7 0), .int .u8 (PD.dst.getD 8 0), .int .u8 (PD.dst.getD 9 0), .int .u8 (PD.dst.getD 10 0), .int .u8 (PD.dst.getD 11 0), .int .u8 (PD.dst.getD 12 0), .int .u8 (PD.dst.getD 13 0), .int .u8 (PD.dst.getD 14 0), .int .u8 (PD.dst.getD 15 0)]) (by exact ex_loadAt (by exact rfl) (by exact rfl) (has142.loadIn (P := Try.prog) 19 [.int .u8 (PD.dst.getD 0 0), .int .u8 (PD.dst.getD 1 0), .int .u8 (PD.dst.getD 2 0), .int .u8 (PD.dst.getD 3 0), .int .u8 (PD.dst.getD 4 0), .int .u8 (PD.dst.getD 5 0), .int .u8 (PD.dst.getD 6 0), .int .u8 (PD.dst.getD 7 0), .int .u8 (PD.dst.getD 8 0), .int .u8 (PD.dst.getD 9 0), .int .u8 (PD.dst.getD 10 0), .int .u8 (PD.dst.getD 11 0), .int .u8 (PD.dst.getD 12 0), .int .u8 (PD.dst.getD 13 0), .int .u8 (PD.dst.getD 14 0), .int .u8 (PD.dst.getD 15 0)] (by kernel_rfl) 29 Try.underlying29 rfl (by kernel_rfl))) ?_
    simp only [lay]
    refine lv (.pointer (some ⟨g8, 16, none⟩)) (by exact xf 16 15 Try.underlying31) ?_
    simp only [lay]
    refine lv (.agg (a16 t)) (by exact ex_loadAt (by exact rfl) (by exact rfl) (has143.loadIn (P := Try.prog) 16 (w16 t) (by kernel_rfl) 29 Try.underlying29 rfl (by kernel_rfl))) ?_
    simp only [lay]
    refine lv (.bool true) (by exact ex_eq_a16 PD.dst t (by exact rfl) (by exact rfl) (by exact rfl) hp3) ?_
    simp only [lay]
    refine lv (.bool true) (by exact xp (b := true)) ?_
    simp only [lay]
    refine lv (.bool true) (by exact xm) ?_
    simp only [lay]
    refine lv (.pointer (some ⟨g51, 2, none⟩)) (by exact xf 2 0 Try.underlying36) ?_
    simp only [lay]
    refine lv (.int .u8 PD.hop) (by exact xc Try.underlying5 (has142.cell 2 rfl)) ?_
    simp only [lay]
    refine lv (.pointer (some ⟨g1, 5, none⟩)) (by exact xf 5 0 Try.underlying27) ?_
    simp only [lay]
    refine lv (.int .u8 C.ttl) (by exact xc Try.underlying5 (has139.cell 5 rfl)) ?_
    simp only [lay]
    refine lv (.bool true) (by exact yq (h := hp4)) ?_
    simp only [lay]
    refine lv (.bool true) (by exact xp (b := true)) ?_
    simp only [lay]
    refine lv (.bool true) (by exact xm) ?_
    simp only [lay]
    refine lv (.agg (C.cells p)) (by exact xo (has139.load (P := Try.prog) 27 Try.underlying27 rfl (by kernel_rfl))) ?_
    simp only [lay]
    have b144 := bt b71 hb74
    have b145 := bt b144 hb85
    have l146 := lq b144 ge83
    have b147 := b145.trans (hb90.mono l146)
    have b148 := bt b147 hb99
    have b149 := bt b148 hb116
    have b150 := bt b149 hb134
    have rd151 := hRC.to b150
    refine lz (ow_call (fun v w' => v = .int .i64 0 ∧ Below W133.heap.size W133 w') (by exact xk Try.func25) ((rcheck_x rd151).mono fun e w' h => by obtain ⟨v, h1, h2, h3⟩ := h; exact ⟨v, h1, by rw [h2, (pack17_ok (hPE.trans (by assumption))).1], h3⟩) ?_)
    rintro _ W152 ⟨rfl, hb153⟩
    have z154 := hb153.size
    simp only [lay]
    refine lv (.bool true) (by exact yq (h := (by decide))) ?_
    simp only [lay]
    refine lv (.bool true) (by exact xp (b := true)) ?_
    simp only [lay]
    refine lv (.bool true) (by exact xm) ?_
    simp only [lay]
    refine lz (ow_call (fun v w' => v = .bool true ∧ Below W152.heap.size W152 w') (by exact xk Try.func13) ((alive17_any W152).mono fun e w' h => ⟨_, h.1, rfl, h.2⟩) ?_)
    rintro _ W155 ⟨rfl, hb156⟩
    have z157 := hb156.size
    simp only [lay]
    refine lv (.bool true) (by exact xp (b := true)) ?_
    simp only [lay]
    refine lv (.bool true) (by exact xa) ?_
    simp only [lay]
    refine wn ?_
    refine wp_ret ?_
    try simp only [Exit.then]
    have b158 := bt b150 hb153
    have b159 := bt b158 hb156
    exact bodyPost_ret (res_one Try.results7 rfl) rfl ⟨rfl, b159⟩
   replace q140 := eq_false_of_ne_true q140
   rw [q140]
   refine lv (.pointer (some ⟨g1, 4, none⟩)) (by exact xf 4 0 Try.underlying27) ?_
   simp only [lay]
   refine lv (.int .i64 C.off) (by exact xc Try.underlying3 (has139.cell 4 rfl)) ?_
   simp only [lay]
   by_cases q160 : C.off > 0
   case pos =>
    refine lv (.bool true) (by exact ex_gtr (by exact rfl) (by exact rfl) (by exact rfl) (decide_eq_true (by first | assumption | omega | decide))) ?_
    simp only [lay]
    refine lv (.bool true) (by exact xp (b := false)) ?_
    simp only [lay]
    refine wn ?_
    refine wp_cond_true (by exact rfl) ?_
    refine wp_region_lit ?_
    refine lv (.int .i64 (40 + (C.bl.length : Int))) (by exact xm) ?_
    simp only [lay]
    refine lv (.int .i64 (40 + (C.bl.length : Int) + 8)) (by exact xb (b_add _ (40 + (C.bl.length : Int) + 8) rfl (by omega) _)) ?_
    simp only [lay]
    refine lv (.int .i64 (40 + (C.bl.length : Int) + 8)) (by exact xa) ?_
    simp only [lay]
    refine wn ?_
    refine wp_sr ?_
    refine lv (.int .i64 0) (by exact xm) ?_
    simp only [lay]
    refine lv (.bool true) (by exact yq (h := (by decide))) ?_
    simp only [lay]
    refine lv (.bool true) (by exact xm) ?_
    simp only [lay]
    refine lv (.int .i64 PD.all) (by exact xm) ?_
    simp only [lay]
    refine lv (.int .i64 (40 + (C.bl.length : Int) + 8)) (by exact xm) ?_
    simp only [lay]
    have qp : C.part = true := by unfold D4.part; simp [*]; try omega
    rw [qp] at hz2
    have hln : PD.all = 40 + (C.bl.length : Int) + 8 := D6.all_of hz1 (by simp only [if_true, Bool.false_eq_true, if_false] at hz2; omega)
    refine lv (.bool true) (by exact yq (h := hln)) ?_
    simp only [lay]
    refine lv (.bool true) (by exact xp (b := true)) ?_
    simp only [lay]
    refine lv (.bool true) (by exact xm) ?_
    simp only [lay]
    refine lv (.pointer (some ⟨g51, 3, none⟩)) (by exact xf 3 15 Try.underlying36) ?_
    simp only [lay]
    have b161 := bt b122 hb134
    have has162 := hg59.to b161
    refine lv (.agg #[.int .u8 (PD.src.getD 0 0), .int .u8 (PD.src.getD 1 0), .int .u8 (PD.src.getD 2 0), .int .u8 (PD.src.getD 3 0), .int .u8 (PD.src.getD 4 0), .int .u8 (PD.src.getD 5 0), .int .u8 (PD.src.getD 6 0), .int .u8 (PD.src.getD 7 0), .int .u8 (PD.src.getD 8 0), .int .u8 (PD.src.getD 9 0), .int .u8 (PD.src.getD 10 0), .int .u8 (PD.src.getD 11 0), .int .u8 (PD.src.getD 12 0), .int .u8 (PD.src.getD 13 0), .int .u8 (PD.src.getD 14 0), .int .u8 (PD.src.getD 15 0)]) (by exact ex_loadAt (by exact rfl) (by exact rfl) (has162.loadIn (P := Try.prog) 3 [.int .u8 (PD.src.getD 0 0), .int .u8 (PD.src.getD 1 0), .int .u8 (PD.src.getD 2 0), .int .u8 (PD.src.getD 3 0), .int .u8 (PD.src.getD 4 0), .int .u8 (PD.src.getD 5 0), .int .u8 (PD.src.getD 6 0), .int .u8 (PD.src.getD 7 0), .int .u8 (PD.src.getD 8 0), .int .u8 (PD.src.getD 9 0), .int .u8 (PD.src.getD 10 0), .int .u8 (PD.src.getD 11 0), .int .u8 (PD.src.getD 12 0), .int .u8 (PD.src.getD 13 0), .int .u8 (PD.src.getD 14 0), .int .u8 (PD.src.getD 15 0)] (by kernel_rfl) 29 Try.underlying29 rfl (by kernel_rfl))) ?_
    simp only [lay]
    refine lv (.pointer (some ⟨g8, 0, none⟩)) (by exact xf 0 15 Try.underlying31) ?_
    simp only [lay]
    have has163 := has40.to b138
    refine lv (.agg (a16 s)) (by exact ex_loadAt (by exact rfl) (by exact rfl) (has163.loadIn (P := Try.prog) 0 (w16 s) (by kernel_rfl) 29 Try.underlying29 rfl (by kernel_rfl))) ?_
    simp only [lay]
    refine lv (.bool true) (by exact ex_eq_a16 PD.src s (by exact rfl) (by exact rfl) (by exact rfl) hp2) ?_
    simp only [lay]
    refine lv (.bool true) (by exact xp (b := true)) ?_
    simp only [lay]
    refine lv (.bool true) (by exact xm) ?_
    simp only [lay]
    refine lv (.pointer (some ⟨g51, 19, none⟩)) (by exact xf 19 15 Try.underlying36) ?_
    simp only [lay]
    refine lv (.agg #[.int .u8 (PD.dst.getD 0 0), .int .u8 (PD.dst.getD 1 0), .int .u8 (PD.dst.getD 2 0), .int .u8 (PD.dst.getD 3 0), .int .u8 (PD.dst.getD 4 0), .int .u8 (PD.dst.getD 5 0), .int .u8 (PD.dst.getD 6 0), .int .u8 (PD.dst.getD 7 0), .int .u8 (PD.dst.getD 8 0), .int .u8 (PD.dst.getD 9 0), .int .u8 (PD.dst.getD 10 0), .int .u8 (PD.dst.getD 11 0), .int .u8 (PD.dst.getD 12 0), .int .u8 (PD.dst.getD 13 0), .int .u8 (PD.dst.getD 14 0), .int .u8 (PD.dst.getD 15 0)]) (by exact ex_loadAt (by exact rfl) (by exact rfl) (has162.loadIn (P := Try.prog) 19 [.int .u8 (PD.dst.getD 0 0), .int .u8 (PD.dst.getD 1 0), .int .u8 (PD.dst.getD 2 0), .int .u8 (PD.dst.getD 3 0), .int .u8 (PD.dst.getD 4 0), .int .u8 (PD.dst.getD 5 0), .int .u8 (PD.dst.getD 6 0), .int .u8 (PD.dst.getD 7 0), .int .u8 (PD.dst.getD 8 0), .int .u8 (PD.dst.getD 9 0), .int .u8 (PD.dst.getD 10 0), .int .u8 (PD.dst.getD 11 0), .int .u8 (PD.dst.getD 12 0), .int .u8 (PD.dst.getD 13 0), .int .u8 (PD.dst.getD 14 0), .int .u8 (PD.dst.getD 15 0)] (by kernel_rfl) 29 Try.underlying29 rfl (by kernel_rfl))) ?_
    simp only [lay]
    refine lv (.pointer (some ⟨g8, 16, none⟩)) (by exact xf 16 15 Try.underlying31) ?_
    simp only [lay]
    refine lv (.agg (a16 t)) (by exact ex_loadAt (by exact rfl) (by exact rfl) (has163.loadIn (P := Try.prog) 16 (w16 t) (by kernel_rfl) 29 Try.underlying29 rfl (by kernel_rfl))) ?_
    simp only [lay]
    refine lv (.bool true) (by exact ex_eq_a16 PD.dst t (by exact rfl) (by exact rfl) (by exact rfl) hp3) ?_
    simp only [lay]
    refine lv (.bool true) (by exact xp (b := true)) ?_
    simp only [lay]
    refine lv (.bool true) (by exact xm) ?_
    simp only [lay]
    refine lv (.pointer (some ⟨g51, 2, none⟩)) (by exact xf 2 0 Try.underlying36) ?_
    simp only [lay]
    refine lv (.int .u8 PD.hop) (by exact xc Try.underlying5 (has162.cell 2 rfl)) ?_
    simp only [lay]
    refine lv (.pointer (some ⟨g1, 5, none⟩)) (by exact xf 5 0 Try.underlying27) ?_
    simp only [lay]
    refine lv (.int .u8 C.ttl) (by exact xc Try.underlying5 (has139.cell 5 rfl)) ?_
    simp only [lay]
    refine lv (.bool true) (by exact yq (h := hp4)) ?_
    simp only [lay]
    refine lv (.bool true) (by exact xp (b := true)) ?_
    simp only [lay]
    refine lv (.bool true) (by exact xm) ?_
    simp only [lay]
    refine lv (.agg (C.cells p)) (by exact xo (has139.load (P := Try.prog) 27 Try.underlying27 rfl (by kernel_rfl))) ?_
    simp only [lay]
    have b164 := bt b71 hb74
    have b165 := bt b164 hb85
    have l166 := lq b164 ge83
    have b167 := b165.trans (hb90.mono l166)
    have b168 := bt b167 hb99
    have b169 := bt b168 hb116
    have b170 := bt b169 hb134
    have rd171 := hRC.to b170
    refine lz (ow_call (fun v w' => v = .int .i64 0 ∧ Below W133.heap.size W133 w') (by exact xk Try.func25) ((rcheck_x rd171).mono fun e w' h => by obtain ⟨v, h1, h2, h3⟩ := h; exact ⟨v, h1, by rw [h2, (pack17_ok (hPE.trans (by assumption))).1], h3⟩) ?_)
    rintro _ W172 ⟨rfl, hb173⟩
    have z174 := hb173.size
    simp only [lay]
    refine lv (.bool true) (by exact yq (h := (by decide))) ?_
    simp only [lay]
    refine lv (.bool true) (by exact xp (b := true)) ?_
    simp only [lay]
    refine lv (.bool true) (by exact xm) ?_
    simp only [lay]
    refine lz (ow_call (fun v w' => v = .bool true ∧ Below W172.heap.size W172 w') (by exact xk Try.func13) ((alive17_any W172).mono fun e w' h => ⟨_, h.1, rfl, h.2⟩) ?_)
    rintro _ W175 ⟨rfl, hb176⟩
    have z177 := hb176.size
    simp only [lay]
    refine lv (.bool true) (by exact xp (b := true)) ?_
    simp only [lay]
    refine lv (.bool true) (by exact xa) ?_
    simp only [lay]
    refine wn ?_
    refine wp_ret ?_
    try simp only [Exit.then]
    have b178 := bt b170 hb173
    have b179 := bt b178 hb176
    exact bodyPost_ret (res_one Try.results7 rfl) rfl ⟨rfl, b179⟩
   refine lv (.bool false) (by exact ex_gtr (by exact rfl) (by exact rfl) (by exact rfl) (decide_eq_false (by first | assumption | omega | decide))) ?_
   simp only [lay]
   refine lv (.bool false) (by exact xp (b := false)) ?_
   simp only [lay]
   refine wn ?_
   refine wp_cond_false (by exact rfl) ?_
   refine wp_skip ?_
   change Code.wp _ _ _ _ _
   refine wp_sr ?_
   refine lv (.int .i64 0) (by exact xm) ?_
   simp only [lay]
   refine lv (.bool true) (by exact yq (h := (by decide))) ?_
   simp only [lay]
   refine lv (.bool true) (by exact xm) ?_
   simp only [lay]
   refine lv (.int .i64 PD.all) (by exact xm) ?_
   simp only [lay]
   refine lv (.int .i64 (40 + (C.bl.length : Int))) (by exact xm) ?_
   simp only [lay]
   have qp : C.part = false := by unfold D4.part; simp [*]; try omega
   rw [qp] at hz2
   have hln : PD.all = 40 + (C.bl.length : Int) := D6.all_of hz1 (by simp only [if_true, Bool.false_eq_true, if_false] at hz2; omega)
   refine lv (.bool true) (by exact yq (h := hln)) ?_
   simp only [lay]
   refine lv (.bool true) (by exact xp (b := true)) ?_
   simp only [lay]
   refine lv (.bool true) (by exact xm) ?_
   simp only [lay]
   refine lv (.pointer (some ⟨g51, 3, none⟩)) (by exact xf 3 15 Try.underlying36) ?_
   simp only [lay]
   have b180 := bt b122 hb134
   have has181 := hg59.to b180
   refine lv (.agg #[.int .u8 (PD.src.getD 0 0), .int .u8 (PD.src.getD 1 0), .int .u8 (PD.src.getD 2 0), .int .u8 (PD.src.getD 3 0), .int .u8 (PD.src.getD 4 0), .int .u8 (PD.src.getD 5 0), .int .u8 (PD.src.getD 6 0), .int .u8 (PD.src.getD 7 0), .int .u8 (PD.src.getD 8 0), .int .u8 (PD.src.getD 9 0), .int .u8 (PD.src.getD 10 0), .int .u8 (PD.src.getD 11 0), .int .u8 (PD.src.getD 12 0), .int .u8 (PD.src.getD 13 0), .int .u8 (PD.src.getD 14 0), .int .u8 (PD.src.getD 15 0)]) (by exact ex_loadAt (by exact rfl) (by exact rfl) (has181.loadIn (P := Try.prog) 3 [.int .u8 (PD.src.getD 0 0), .int .u8 (PD.src.getD 1 0), .int .u8 (PD.src.getD 2 0), .int .u8 (PD.src.getD 3 0), .int .u8 (PD.src.getD 4 0), .int .u8 (PD.src.getD 5 0), .int .u8 (PD.src.getD 6 0), .int .u8 (PD.src.getD 7 0), .int .u8 (PD.src.getD 8 0), .int .u8 (PD.src.getD 9 0), .int .u8 (PD.src.getD 10 0), .int .u8 (PD.src.getD 11 0), .int .u8 (PD.src.getD 12 0), .int .u8 (PD.src.getD 13 0), .int .u8 (PD.src.getD 14 0), .int .u8 (PD.src.getD 15 0)] (by kernel_rfl) 29 Try.underlying29 rfl (by kernel_rfl))) ?_
   simp only [lay]
   refine lv (.pointer (some ⟨g8, 0, none⟩)) (by exact xf 0 15 Try.underlying31) ?_
   simp only [lay]
   have has182 := has40.to b138
   refine lv (.agg (a16 s)) (by exact ex_loadAt (by exact rfl) (by exact rfl) (has182.loadIn (P := Try.prog) 0 (w16 s) (by kernel_rfl) 29 Try.underlying29 rfl (by kernel_rfl))) ?_
   simp only [lay]
   refine lv (.bool true) (by exact ex_eq_a16 PD.src s (by exact rfl) (by exact rfl) (by exact rfl) hp2) ?_
   simp only [lay]
   refine lv (.bool true) (by exact xp (b := true)) ?_
   simp only [lay]
   refine lv (.bool true) (by exact xm) ?_
   simp only [lay]
   refine lv (.pointer (some ⟨g51, 19, none⟩)) (by exact xf 19 15 Try.underlying36) ?_
   simp only [lay]
   refine lv (.agg #[.int .u8 (PD.dst.getD 0 0), .int .u8 (PD.dst.getD 1 0), .int .u8 (PD.dst.getD 2 0), .int .u8 (PD.dst.getD 3 0), .int .u8 (PD.dst.getD 4 0), .int .u8 (PD.dst.getD 5 0), .int .u8 (PD.dst.getD 6 0), .int .u8 (PD.dst.getD 7 0), .int .u8 (PD.dst.getD 8 0), .int .u8 (PD.dst.getD 9 0), .int .u8 (PD.dst.getD 10 0), .int .u8 (PD.dst.getD 11 0), .int .u8 (PD.dst.getD 12 0), .int .u8 (PD.dst.getD 13 0), .int .u8 (PD.dst.getD 14 0), .int .u8 (PD.dst.getD 15 0)]) (by exact ex_loadAt (by exact rfl) (by exact rfl) (has181.loadIn (P := Try.prog) 19 [.int .u8 (PD.dst.getD 0 0), .int .u8 (PD.dst.getD 1 0), .int .u8 (PD.dst.getD 2 0), .int .u8 (PD.dst.getD 3 0), .int .u8 (PD.dst.getD 4 0), .int .u8 (PD.dst.getD 5 0), .int .u8 (PD.dst.getD 6 0), .int .u8 (PD.dst.getD 7 0), .int .u8 (PD.dst.getD 8 0), .int .u8 (PD.dst.getD 9 0), .int .u8 (PD.dst.getD 10 0), .int .u8 (PD.dst.getD 11 0), .int .u8 (PD.dst.getD 12 0), .int .u8 (PD.dst.getD 13 0), .int .u8 (PD.dst.getD 14 0), .int .u8 (PD.dst.getD 15 0)] (by kernel_rfl) 29 Try.underlying29 rfl (by kernel_rfl))) ?_
   simp only [lay]
   refine lv (.pointer (some ⟨g8, 16, none⟩)) (by exact xf 16 15 Try.underlying31) ?_
   simp only [lay]
   refine lv (.agg (a16 t)) (by exact ex_loadAt (by exact rfl) (by exact rfl) (has182.loadIn (P := Try.prog) 16 (w16 t) (by kernel_rfl) 29 Try.underlying29 rfl (by kernel_rfl))) ?_
   simp only [lay]
   refine lv (.bool true) (by exact ex_eq_a16 PD.dst t (by exact rfl) (by exact rfl) (by exact rfl) hp3) ?_
   simp only [lay]
   refine lv (.bool true) (by exact xp (b := true)) ?_
   simp only [lay]
   refine lv (.bool true) (by exact xm) ?_
   simp only [lay]
   refine lv (.pointer (some ⟨g51, 2, none⟩)) (by exact xf 2 0 Try.underlying36) ?_
   simp only [lay]
   refine lv (.int .u8 PD.hop) (by exact xc Try.underlying5 (has181.cell 2 rfl)) ?_
   simp only [lay]
   refine lv (.pointer (some ⟨g1, 5, none⟩)) (by exact xf 5 0 Try.underlying27) ?_
   simp only [lay]
   refine lv (.int .u8 C.ttl) (by exact xc Try.underlying5 (has139.cell 5 rfl)) ?_
   simp only [lay]
   refine lv (.bool true) (by exact yq (h := hp4)) ?_
   simp only [lay]
   refine lv (.bool true) (by exact xp (b := true)) ?_
   simp only [lay]
   refine lv (.bool true) (by exact xm) ?_
   simp only [lay]
   refine lv (.agg (C.cells p)) (by exact xo (has139.load (P := Try.prog) 27 Try.underlying27 rfl (by kernel_rfl))) ?_
   simp only [lay]
   have b183 := bt b71 hb74
   have b184 := bt b183 hb85
   have l185 := lq b183 ge83
   have b186 := b184.trans (hb90.mono l185)
   have b187 := bt b186 hb99
   have b188 := bt b187 hb116
   have b189 := bt b188 hb134
   have rd190 := hRC.to b189
   refine lz (ow_call (fun v w' => v = .int .i64 0 ∧ Below W133.heap.size W133 w') (by exact xk Try.func25) ((rcheck_x rd190).mono fun e w' h => by obtain ⟨v, h1, h2, h3⟩ := h; exact ⟨v, h1, by rw [h2, (pack17_ok (hPE.trans (by assumption))).1], h3⟩) ?_)
   rintro _ W191 ⟨rfl, hb192⟩
   have z193 := hb192.size
   simp only [lay]
   refine lv (.bool true) (by exact yq (h := (by decide))) ?_
   simp only [lay]
   refine lv (.bool true) (by exact xp (b := true)) ?_
   simp only [lay]
   refine lv (.bool true) (by exact xm) ?_
   simp only [lay]
   refine lz (ow_call (fun v w' => v = .bool true ∧ Below W191.heap.size W191 w') (by exact xk Try.func13) ((alive17_any W191).mono fun e w' h => ⟨_, h.1, rfl, h.2⟩) ?_)
   rintro _ W194 ⟨rfl, hb195⟩
   have z196 := hb195.size
   simp only [lay]
   refine lv (.bool true) (by exact xp (b := true)) ?_
   simp only [lay]
   refine lv (.bool true) (by exact xa) ?_
   simp only [lay]
   refine wn ?_
   refine wp_ret ?_
   try simp only [Exit.then]
   have b197 := bt b189 hb192
   have b198 := bt b197 hb195
   exact bodyPost_ret (res_one Try.results7 rfl) rfl ⟨rfl, b198⟩
  refine lv (.bool false) (by exact yqn) ?_
  simp only [lay]
  refine lv (.bool false) (by exact xm) ?_
  simp only [lay]
  refine lzn ?_
  simp only [lay]
  refine lzn ?_
  simp only [lay]
  refine lzn ?_
  simp only [lay]
  refine lzn ?_
  simp only [lay]
  refine lzn ?_
  simp only [lay]
  refine lzn ?_
  simp only [lay]
  refine lzn ?_
  simp only [lay]
  refine lv (.bool false) (by exact xp (b := false)) ?_
  simp only [lay]
  refine wn ?_
  refine wp_cond_false (by exact rfl) ?_
  refine wp_skip ?_
  change Code.wp _ _ _ _ _
  refine wp_sr ?_
  have b199 := bt hb74 hb85
  have l200 := lq hb74 ge83
  have b201 := b199.trans (hb90.mono l200)
  have has202 := hg59.to b201
  refine lv (.agg (PD.cells p48)) (by exact xo (has202.load (P := Try.prog) 36 Try.underlying36 rfl (by kernel_rfl))) ?_
  simp only [lay]
  have l203 : W46.heap.size ≤ g51 := Nat.le_of_eq ge54.symm
  have b204 := hb56.trans (hb61.mono l203)
  have b205 := bt b204 hb74
  have b206 := bt b205 hb85
  have l207 := lq b205 ge83
  have b208 := b206.trans (hb90.mono l207)
  have own6209 := ho49.to b208
  obtain ⟨hz1, hz2⟩ := long17 (s' := s') (t' := t') (hPE.trans (by assumption)) (fun h => by first | exact absurd h (by assumption) | (rw [hM]; assumption))
  rw [hPD] at hz1 hz2
  obtain ⟨hp1, hp2, hp3⟩ := pack17_at (hPE.trans (by assumption))
  rw [hPD] at hp1 hp2 hp3
  have hp4 := pack17_ttl (hPE.trans (by assumption))
  rw [hPD] at hp4
  refine lz (ow_call (fun v w' => v = .tuple #[.int .i64 PD.all, .int .i64 PD.headI, .int .i64 0] ∧ Below W87.heap.size W87 w') (by exact xk Try.func24) ((rsize6_any PD _ W87 own6209.rd).mono (by rintro e w' ⟨⟨q, r, z, rfl, hq⟩, hb⟩; exact ⟨_, rfl, by rw [hq.out.1, hq.out.2.1, hq.out.2.2, hz1], hb⟩)) ?_)
  rintro _ W210 ⟨rfl, hb211⟩
  have z212 := hb211.size
  simp only [lay]
  refine lv (.tuple #[.int .i64 PD.all, .int .i64 PD.headI, .int .i64 0]) (by exact xm) ?_
  simp only [lay]
  refine lv (.int .i64 PD.all) (by exact xe) ?_
  simp only [lay]
  refine lv (.int .i64 PD.headI) (by exact xe) ?_
  simp only [lay]
  refine lv (.int .i64 0) (by exact xe) ?_
  simp only [lay]
  refine lv (.int .i64 PD.all) (by exact xa) ?_
  simp only [lay]
  refine lv (.int .i64 PD.headI) (by exact xa) ?_
  simp only [lay]
  refine lv (.int .i64 0) (by exact xa) ?_
  simp only [lay]
  refine wn ?_
  refine wp_sr ?_
  refine lv (.pointer (some ⟨g1, 16, none⟩)) (by exact xf 16 0 Try.underlying27) ?_
  simp only [lay]
  have b213 := bt b95 hb211
  have has214 := hg31.to b213
  refine lv (.slice p.bA C.bl.length p.bc) (by exact xc Try.underlying25 (has214.cell 16 rfl)) ?_
  simp only [lay]
  refine lv (.int .i64 (C.bl.length : Int)) (by exact xz Try.underlying25) ?_
  simp only [lay]
  refine lv (.int .i64 (40 + (C.bl.length : Int))) (by exact xb (b_add _ (40 + (C.bl.length : Int)) rfl (by omega) _)) ?_
  simp only [lay]
  refine lv (.int .i64 (40 + (C.bl.length : Int))) (by exact xa) ?_
  simp only [lay]
  refine wn ?_
  refine wp_seq ?_
  refine wp_sr ?_
  refine lv (.pointer (some ⟨g1, 3, none⟩)) (by exact xf 3 0 Try.underlying27) ?_
  simp only [lay]
  refine lv (.bool C.mf) (by exact xc Try.underlying4 (has214.cell 3 rfl)) ?_
  simp only [lay]
  refine lv (.bool C.mf) (by exact xm) ?_
  simp only [lay]
  by_cases q215 : C.mf = true
  case pos =>
   rw [q215]
   refine lzn ?_
   simp only [lay]
   refine lzn ?_
   simp only [lay]
   refine lzn ?_
   simp only [lay]
   refine lv (.bool true) (by exact xp (b := true)) ?_
   simp only [lay]
   refine wn ?_
   refine wp_cond_true (by exact rfl) ?_
   refine wp_region_lit ?_
   refine lv (.int .i64 (40 + (C.bl.length : Int))) (by exact xm) ?_
   simp only [lay]
   refine lv (.int .i64 (40 + (C.bl.length : Int) + 8)) (by exact xb (b_add _ (40 + (C.bl.length : Int) + 8) rfl (by omega) _)) ?_
   simp only [lay]
   refine lv (.int .i64 (40 + (C.bl.length : Int) + 8)) (by exact xa) ?_
   simp only [lay]
   refine wn ?_
   refine wp_sr ?_
   refine lv (.int .i64 0) (by exact xm) ?_
   simp only [lay]
   refine lv (.bool true) (by exact yq (h := (by decide))) ?_
   simp only [lay]
   refine lv (.bool true) (by exact xm) ?_
   simp only [lay]
   refine lv (.int .i64 PD.all) (by exact xm) ?_
   simp only [lay]
   refine lv (.int .i64 (40 + (C.bl.length : Int) + 8)) (by exact xm) ?_
   simp only [lay]
   have qp : C.part = true := by unfold D4.part; simp [*]; try omega
   rw [qp] at hz2
   have hln : PD.all = 40 + (C.bl.length : Int) + 8 := D6.all_of hz1 (by simp only [if_true, Bool.false_eq_true, if_false] at hz2; omega)
   refine lv (.bool true) (by exact yq (h := hln)) ?_
   simp only [lay]
   refine lv (.bool true) (by exact xp (b := true)) ?_
   simp only [lay]
   refine lv (.bool true) (by exact xm) ?_
   simp only [lay]
   refine lv (.pointer (some ⟨g51, 3, none⟩)) (by exact xf 3 15 Try.underlying36) ?_
   simp only [lay]
   have b216 := bt b201 hb211
   have has217 := hg59.to b216
   refine lv (.agg #[.int .u8 (PD.src.getD 0 0), .int .u8 (PD.src.getD 1 0), .int .u8 (PD.src.getD 2 0), .int .u8 (PD.src.getD 3 0), .int .u8 (PD.src.getD 4 0), .int .u8 (PD.src.getD 5 0), .int .u8 (PD.src.getD 6 0), .int .u8 (PD.src.getD 7 0), .int .u8 (PD.src.getD 8 0), .int .u8 (PD.src.getD 9 0), .int .u8 (PD.src.getD 10 0), .int .u8 (PD.src.getD 11 0), .int .u8 (PD.src.getD 12 0), .int .u8 (PD.src.getD 13 0), .int .u8 (PD.src.getD 14 0), .int .u8 (PD.src.getD 15 0)]) (by exact ex_loadAt (by exact rfl) (by exact rfl) (has217.loadIn (P := Try.prog) 3 [.int .u8 (PD.src.getD 0 0), .int .u8 (PD.src.getD 1 0), .int .u8 (PD.src.getD 2 0), .int .u8 (PD.src.getD 3 0), .int .u8 (PD.src.getD 4 0), .int .u8 (PD.src.getD 5 0), .int .u8 (PD.src.getD 6 0), .int .u8 (PD.src.getD 7 0), .int .u8 (PD.src.getD 8 0), .int .u8 (PD.src.getD 9 0), .int .u8 (PD.src.getD 10 0), .int .u8 (PD.src.getD 11 0), .int .u8 (PD.src.getD 12 0), .int .u8 (PD.src.getD 13 0), .int .u8 (PD.src.getD 14 0), .int .u8 (PD.src.getD 15 0)] (by kernel_rfl) 29 Try.underlying29 rfl (by kernel_rfl))) ?_
   simp only [lay]
   refine lv (.pointer (some ⟨g8, 0, none⟩)) (by exact xf 0 15 Try.underlying31) ?_
   simp only [lay]
   have has218 := has40.to b213
   refine lv (.agg (a16 s)) (by exact ex_loadAt (by exact rfl) (by exact rfl) (has218.loadIn (P := Try.prog) 0 (w16 s) (by kernel_rfl) 29 Try.underlying29 rfl (by kernel_rfl))) ?_
   simp only [lay]
   refine lv (.bool true) (by exact ex_eq_a16 PD.src s (by exact rfl) (by exact rfl) (by exact rfl) hp2) ?_
   simp only [lay]
   refine lv (.bool true) (by exact xp (b := true)) ?_
   simp only [lay]
   refine lv (.bool true) (by exact xm) ?_
   simp only [lay]
   refine lv (.pointer (some ⟨g51, 19, none⟩)) (by exact xf 19 15 Try.underlying36) ?_
   simp only [lay]
   refine lv (.agg #[.int .u8 (PD.dst.getD 0 0), .int .u8 (PD.dst.getD 1 0), .int .u8 (PD.dst.getD 2 0), .int .u8 (PD.dst.getD 3 0), .int .u8 (PD.dst.getD 4 0), .int .u8 (PD.dst.getD 5 0), .int .u8 (PD.dst.getD 6 0), .int .u8 (PD.dst.getD 7 0), .int .u8 (PD.dst.getD 8 0), .int .u8 (PD.dst.getD 9 0), .int .u8 (PD.dst.getD 10 0), .int .u8 (PD.dst.getD 11 0), .int .u8 (PD.dst.getD 12 0), .int .u8 (PD.dst.getD 13 0), .int .u8 (PD.dst.getD 14 0), .int .u8 (PD.dst.getD 15 0)]) (by exact ex_loadAt (by exact rfl) (by exact rfl) (has217.loadIn (P := Try.prog) 19 [.int .u8 (PD.dst.getD 0 0), .int .u8 (PD.dst.getD 1 0), .int .u8 (PD.dst.getD 2 0), .int .u8 (PD.dst.getD 3 0), .int .u8 (PD.dst.getD 4 0), .int .u8 (PD.dst.getD 5 0), .int .u8 (PD.dst.getD 6 0), .int .u8 (PD.dst.getD 7 0), .int .u8 (PD.dst.getD 8 0), .int .u8 (PD.dst.getD 9 0), .int .u8 (PD.dst.getD 10 0), .int .u8 (PD.dst.getD 11 0), .int .u8 (PD.dst.getD 12 0), .int .u8 (PD.dst.getD 13 0), .int .u8 (PD.dst.getD 14 0), .int .u8 (PD.dst.getD 15 0)] (by kernel_rfl) 29 Try.underlying29 rfl (by kernel_rfl))) ?_
   simp only [lay]
   refine lv (.pointer (some ⟨g8, 16, none⟩)) (by exact xf 16 15 Try.underlying31) ?_
   simp only [lay]
   refine lv (.agg (a16 t)) (by exact ex_loadAt (by exact rfl) (by exact rfl) (has218.loadIn (P := Try.prog) 16 (w16 t) (by kernel_rfl) 29 Try.underlying29 rfl (by kernel_rfl))) ?_
   simp only [lay]
   refine lv (.bool true) (by exact ex_eq_a16 PD.dst t (by exact rfl) (by exact rfl) (by exact rfl) hp3) ?_
   simp only [lay]
   refine lv (.bool true) (by exact xp (b := true)) ?_
   simp only [lay]
   refine lv (.bool true) (by exact xm) ?_
   simp only [lay]
   refine lv (.pointer (some ⟨g51, 2, none⟩)) (by exact xf 2 0 Try.underlying36) ?_
   simp only [lay]
   refine lv (.int .u8 PD.hop) (by exact xc Try.underlying5 (has217.cell 2 rfl)) ?_
   simp only [lay]
   refine lv (.pointer (some ⟨g1, 5, none⟩)) (by exact xf 5 0 Try.underlying27) ?_
   simp only [lay]
   refine lv (.int .u8 C.ttl) (by exact xc Try.underlying5 (has214.cell 5 rfl)) ?_
   simp only [lay]
   refine lv (.bool true) (by exact yq (h := hp4)) ?_
   simp only [lay]
   refine lv (.bool true) (by exact xp (b := true)) ?_
   simp only [lay]
   refine lv (.bool true) (by exact xm) ?_
   simp only [lay]
   refine lv (.agg (C.cells p)) (by exact xo (has214.load (P := Try.prog) 27 Try.underlying27 rfl (by kernel_rfl))) ?_
   simp only [lay]
   have b219 := bt b71 hb74
   have b220 := bt b219 hb85
   have l221 := lq b219 ge83
   have b222 := b220.trans (hb90.mono l221)
   have b223 := bt b222 hb211
   have rd224 := hRC.to b223
   refine lz (ow_call (fun v w' => v = .int .i64 0 ∧ Below W210.heap.size W210 w') (by exact xk Try.func25) ((rcheck_x rd224).mono fun e w' h => by obtain ⟨v, h1, h2, h3⟩ := h; exact ⟨v, h1, by rw [h2, (pack17_ok (hPE.trans (by assumption))).1], h3⟩) ?_)
   rintro _ W225 ⟨rfl, hb226⟩
   have z227 := hb226.size
   simp only [lay]
   refine lv (.bool true) (by exact yq (h := (by decide))) ?_
   simp only [lay]
   refine lv (.bool true) (by exact xp (b := true)) ?_
   simp only [lay]
   refine lv (.bool true) (by exact xm) ?_
   simp only [lay]
   refine lz (ow_call (fun v w' => v = .bool true ∧ Below W225.heap.size W225 w') (by exact xk Try.func13) ((alive17_any W225).mono fun e w' h => ⟨_, h.1, rfl, h.2⟩) ?_)
   rintro _ W228 ⟨rfl, hb229⟩
   have z230 := hb229.size
   simp only [lay]
   refine lv (.bool true) (by exact xp (b := true)) ?_
   simp only [lay]
   refine lv (.bool true) (by exact xa) ?_
   simp only [lay]
   refine wn ?_
   refine wp_ret ?_
   try simp only [Exit.then]
   have b231 := bt b223 hb226
   have b232 := bt b231 hb229
   exact bodyPost_ret (res_one Try.results7 rfl) rfl ⟨rfl, b232⟩
  replace q215 := eq_false_of_ne_true q215
  rw [q215]
  refine lv (.pointer (some ⟨g1, 4, none⟩)) (by exact xf 4 0 Try.underlying27) ?_
  simp only [lay]
  refine lv (.int .i64 C.off) (by exact xc Try.underlying3 (has214.cell 4 rfl)) ?_
  simp only [lay]
  by_cases q233 : C.off > 0
  case pos =>
   refine lv (.bool true) (by exact ex_gtr (by exact rfl) (by exact rfl) (by exact rfl) (decide_eq_true (by first | assumption | omega | decide))) ?_
   simp only [lay]
   refine lv (.bool true) (by exact xp (b := false)) ?_
   simp only [lay]
   refine wn ?_
   refine wp_cond_true (by exact rfl) ?_
   refine wp_region_lit ?_
   refine lv (.int .i64 (40 + (C.bl.length : Int))) (by exact xm) ?_
   simp only [lay]
   refine lv (.int .i64 (40 + (C.bl.length : Int) + 8)) (by exact xb (b_add _ (40 + (C.bl.length : Int) + 8) rfl (by omega) _)) ?_
   simp only [lay]
   refine lv (.int .i64 (40 + (C.bl.length : Int) + 8)) (by exact xa) ?_
   simp only [lay]
   refine wn ?_
   refine wp_sr ?_
   refine lv (.int .i64 0) (by exact xm) ?_
   simp only [lay]
   refine lv (.bool true) (by exact yq (h := (by decide))) ?_
   simp only [lay]
   refine lv (.bool true) (by exact xm) ?_
   simp only [lay]
   refine lv (.int .i64 PD.all) (by exact xm) ?_
   simp only [lay]
   refine lv (.int .i64 (40 + (C.bl.length : Int) + 8)) (by exact xm) ?_
   simp only [lay]
   have qp : C.part = true := by unfold D4.part; simp [*]; try omega
   rw [qp] at hz2
   have hln : PD.all = 40 + (C.bl.length : Int) + 8 := D6.all_of hz1 (by simp only [if_true, Bool.false_eq_true, if_false] at hz2; omega)
   refine lv (.bool true) (by exact yq (h := hln)) ?_
   simp only [lay]
   refine lv (.bool true) (by exact xp (b := true)) ?_
   simp only [lay]
   refine lv (.bool true) (by exact xm) ?_
   simp only [lay]
   refine lv (.pointer (some ⟨g51, 3, none⟩)) (by exact xf 3 15 Try.underlying36) ?_
   simp only [lay]
   have b234 := bt b201 hb211
   have has235 := hg59.to b234
   refine lv (.agg #[.int .u8 (PD.src.getD 0 0), .int .u8 (PD.src.getD 1 0), .int .u8 (PD.src.getD 2 0), .int .u8 (PD.src.getD 3 0), .int .u8 (PD.src.getD 4 0), .int .u8 (PD.src.getD 5 0), .int .u8 (PD.src.getD 6 0), .int .u8 (PD.src.getD 7 0), .int .u8 (PD.src.getD 8 0), .int .u8 (PD.src.getD 9 0), .int .u8 (PD.src.getD 10 0), .int .u8 (PD.src.getD 11 0), .int .u8 (PD.src.getD 12 0), .int .u8 (PD.src.getD 13 0), .int .u8 (PD.src.getD 14 0), .int .u8 (PD.src.getD 15 0)]) (by exact ex_loadAt (by exact rfl) (by exact rfl) (has235.loadIn (P := Try.prog) 3 [.int .u8 (PD.src.getD 0 0), .int .u8 (PD.src.getD 1 0), .int .u8 (PD.src.getD 2 0), .int .u8 (PD.src.getD 3 0), .int .u8 (PD.src.getD 4 0), .int .u8 (PD.src.getD 5 0), .int .u8 (PD.src.getD 6 0), .int .u8 (PD.src.getD 7 0), .int .u8 (PD.src.getD 8 0), .int .u8 (PD.src.getD 9 0), .int .u8 (PD.src.getD 10 0), .int .u8 (PD.src.getD 11 0), .int .u8 (PD.src.getD 12 0), .int .u8 (PD.src.getD 13 0), .int .u8 (PD.src.getD 14 0), .int .u8 (PD.src.getD 15 0)] (by kernel_rfl) 29 Try.underlying29 rfl (by kernel_rfl))) ?_
   simp only [lay]
   refine lv (.pointer (some ⟨g8, 0, none⟩)) (by exact xf 0 15 Try.underlying31) ?_
   simp only [lay]
   have has236 := has40.to b213
   refine lv (.agg (a16 s)) (by exact ex_loadAt (by exact rfl) (by exact rfl) (has236.loadIn (P := Try.prog) 0 (w16 s) (by kernel_rfl) 29 Try.underlying29 rfl (by kernel_rfl))) ?_
   simp only [lay]
   refine lv (.bool true) (by exact ex_eq_a16 PD.src s (by exact rfl) (by exact rfl) (by exact rfl) hp2) ?_
   simp only [lay]
   refine lv (.bool true) (by exact xp (b := true)) ?_
   simp only [lay]
   refine lv (.bool true) (by exact xm) ?_
   simp only [lay]
   refine lv (.pointer (some ⟨g51, 19, none⟩)) (by exact xf 19 15 Try.underlying36) ?_
   simp only [lay]
   refine lv (.agg #[.int .u8 (PD.dst.getD 0 0), .int .u8 (PD.dst.getD 1 0), .int .u8 (PD.dst.getD 2 0), .int .u8 (PD.dst.getD 3 0), .int .u8 (PD.dst.getD 4 0), .int .u8 (PD.dst.getD 5 0), .int .u8 (PD.dst.getD 6 0), .int .u8 (PD.dst.getD 7 0), .int .u8 (PD.dst.getD 8 0), .int .u8 (PD.dst.getD 9 0), .int .u8 (PD.dst.getD 10 0), .int .u8 (PD.dst.getD 11 0), .int .u8 (PD.dst.getD 12 0), .int .u8 (PD.dst.getD 13 0), .int .u8 (PD.dst.getD 14 0), .int .u8 (PD.dst.getD 15 0)]) (by exact ex_loadAt (by exact rfl) (by exact rfl) (has235.loadIn (P := Try.prog) 19 [.int .u8 (PD.dst.getD 0 0), .int .u8 (PD.dst.getD 1 0), .int .u8 (PD.dst.getD 2 0), .int .u8 (PD.dst.getD 3 0), .int .u8 (PD.dst.getD 4 0), .int .u8 (PD.dst.getD 5 0), .int .u8 (PD.dst.getD 6 0), .int .u8 (PD.dst.getD 7 0), .int .u8 (PD.dst.getD 8 0), .int .u8 (PD.dst.getD 9 0), .int .u8 (PD.dst.getD 10 0), .int .u8 (PD.dst.getD 11 0), .int .u8 (PD.dst.getD 12 0), .int .u8 (PD.dst.getD 13 0), .int .u8 (PD.dst.getD 14 0), .int .u8 (PD.dst.getD 15 0)] (by kernel_rfl) 29 Try.underlying29 rfl (by kernel_rfl))) ?_
   simp only [lay]
   refine lv (.pointer (some ⟨g8, 16, none⟩)) (by exact xf 16 15 Try.underlying31) ?_
   simp only [lay]
   refine lv (.agg (a16 t)) (by exact ex_loadAt (by exact rfl) (by exact rfl) (has236.loadIn (P := Try.prog) 16 (w16 t) (by kernel_rfl) 29 Try.underlying29 rfl (by kernel_rfl))) ?_
   simp only [lay]
   refine lv (.bool true) (by exact ex_eq_a16 PD.dst t (by exact rfl) (by exact rfl) (by exact rfl) hp3) ?_
   simp only [lay]
   refine lv (.bool true) (by exact xp (b := true)) ?_
   simp only [lay]
   refine lv (.bool true) (by exact xm) ?_
   simp only [lay]
   refine lv (.pointer (some ⟨g51, 2, none⟩)) (by exact xf 2 0 Try.underlying36) ?_
   simp only [lay]
   refine lv (.int .u8 PD.hop) (by exact xc Try.underlying5 (has235.cell 2 rfl)) ?_
   simp only [lay]
   refine lv (.pointer (some ⟨g1, 5, none⟩)) (by exact xf 5 0 Try.underlying27) ?_
   simp only [lay]
   refine lv (.int .u8 C.ttl) (by exact xc Try.underlying5 (has214.cell 5 rfl)) ?_
   simp only [lay]
   refine lv (.bool true) (by exact yq (h := hp4)) ?_
   simp only [lay]
   refine lv (.bool true) (by exact xp (b := true)) ?_
   simp only [lay]
   refine lv (.bool true) (by exact xm) ?_
   simp only [lay]
   refine lv (.agg (C.cells p)) (by exact xo (has214.load (P := Try.prog) 27 Try.underlying27 rfl (by kernel_rfl))) ?_
   simp only [lay]
   have b237 := bt b71 hb74
   have b238 := bt b237 hb85
   have l239 := lq b237 ge83
   have b240 := b238.trans (hb90.mono l239)
   have b241 := bt b240 hb211
   have rd242 := hRC.to b241
   refine lz (ow_call (fun v w' => v = .int .i64 0 ∧ Below W210.heap.size W210 w') (by exact xk Try.func25) ((rcheck_x rd242).mono fun e w' h => by obtain ⟨v, h1, h2, h3⟩ := h; exact ⟨v, h1, by rw [h2, (pack17_ok (hPE.trans (by assumption))).1], h3⟩) ?_)
   rintro _ W243 ⟨rfl, hb244⟩
   have z245 := hb244.size
   simp only [lay]
   refine lv (.bool true) (by exact yq (h := (by decide))) ?_
   simp only [lay]
   refine lv (.bool true) (by exact xp (b := true)) ?_
   simp only [lay]
   refine lv (.bool true) (by exact xm) ?_
   simp only [lay]
   refine lz (ow_call (fun v w' => v = .bool true ∧ Below W243.heap.size W243 w') (by exact xk Try.func13) ((alive17_any W243).mono fun e w' h => ⟨_, h.1, rfl, h.2⟩) ?_)
   rintro _ W246 ⟨rfl, hb247⟩
   have z248 := hb247.size
   simp only [lay]
   refine lv (.bool true) (by exact xp (b := true)) ?_
   simp only [lay]
   refine lv (.bool true) (by exact xa) ?_
   simp only [lay]
   refine wn ?_
   refine wp_ret ?_
   try simp only [Exit.then]
   have b249 := bt b241 hb244
   have b250 := bt b249 hb247
   exact bodyPost_ret (res_one Try.results7 rfl) rfl ⟨rfl, b250⟩
  refine lv (.bool false) (by exact ex_gtr (by exact rfl) (by exact rfl) (by exact rfl) (decide_eq_false (by first | assumption | omega | decide))) ?_
  simp only [lay]
  refine lv (.bool false) (by exact xp (b := false)) ?_
  simp only [lay]
  refine wn ?_
  refine wp_cond_false (by exact rfl) ?_
  refine wp_skip ?_
  change Code.wp _ _ _ _ _
  refine wp_sr ?_
  refine lv (.int .i64 0) (by exact xm) ?_
  simp only [lay]
  refine lv (.bool true) (by exact yq (h := (by decide))) ?_
  simp only [lay]
  refine lv (.bool true) (by exact xm) ?_
  simp only [lay]
  refine lv (.int .i64 PD.all) (by exact xm) ?_
  simp only [lay]
  refine lv (.int .i64 (40 + (C.bl.length : Int))) (by exact xm) ?_
  simp only [lay]
  have qp : C.part = false := by unfold D4.part; simp [*]; try omega
  rw [qp] at hz2
  have hln : PD.all = 40 + (C.bl.length : Int) := D6.all_of hz1 (by simp only [if_true, Bool.false_eq_true, if_false] at hz2; omega)
  refine lv (.bool true) (by exact yq (h := hln)) ?_
  simp only [lay]
  refine lv (.bool true) (by exact xp (b := true)) ?_
  simp only [lay]
  refine lv (.bool true) (by exact xm) ?_
  simp only [lay]
  refine lv (.pointer (some ⟨g51, 3, none⟩)) (by exact xf 3 15 Try.underlying36) ?_
  simp only [lay]
  have b251 := bt b201 hb211
  have has252 := hg59.to b251
  refine lv (.agg #[.int .u8 (PD.src.getD 0 0), .int .u8 (PD.src.getD 1 0), .int .u8 (PD.src.getD 2 0), .int .u8 (PD.src.getD 3 0), .int .u8 (PD.src.getD 4 0), .int .u8 (PD.src.getD 5 0), .int .u8 (PD.src.getD 6 0), .int .u8 (PD.src.getD 7 0), .int .u8 (PD.src.getD 8 0), .int .u8 (PD.src.getD 9 0), .int .u8 (PD.src.getD 10 0), .int .u8 (PD.src.getD 11 0), .int .u8 (PD.src.getD 12 0), .int .u8 (PD.src.getD 13 0), .int .u8 (PD.src.getD 14 0), .int .u8 (PD.src.getD 15 0)]) (by exact ex_loadAt (by exact rfl) (by exact rfl) (has252.loadIn (P := Try.prog) 3 [.int .u8 (PD.src.getD 0 0), .int .u8 (PD.src.getD 1 0), .int .u8 (PD.src.getD 2 0), .int .u8 (PD.src.getD 3 0), .int .u8 (PD.src.getD 4 0), .int .u8 (PD.src.getD 5 0), .int .u8 (PD.src.getD 6 0), .int .u8 (PD.src.getD 7 0), .int .u8 (PD.src.getD 8 0), .int .u8 (PD.src.getD 9 0), .int .u8 (PD.src.getD 10 0), .int .u8 (PD.src.getD 11 0), .int .u8 (PD.src.getD 12 0), .int .u8 (PD.src.getD 13 0), .int .u8 (PD.src.getD 14 0), .int .u8 (PD.src.getD 15 0)] (by kernel_rfl) 29 Try.underlying29 rfl (by kernel_rfl))) ?_
  simp only [lay]
  refine lv (.pointer (some ⟨g8, 0, none⟩)) (by exact xf 0 15 Try.underlying31) ?_
  simp only [lay]
  have has253 := has40.to b213
  refine lv (.agg (a16 s)) (by exact ex_loadAt (by exact rfl) (by exact rfl) (has253.loadIn (P := Try.prog) 0 (w16 s) (by kernel_rfl) 29 Try.underlying29 rfl (by kernel_rfl))) ?_
  simp only [lay]
  refine lv (.bool true) (by exact ex_eq_a16 PD.src s (by exact rfl) (by exact rfl) (by exact rfl) hp2) ?_
  simp only [lay]
  refine lv (.bool true) (by exact xp (b := true)) ?_
  simp only [lay]
  refine lv (.bool true) (by exact xm) ?_
  simp only [lay]
  refine lv (.pointer (some ⟨g51, 19, none⟩)) (by exact xf 19 15 Try.underlying36) ?_
  simp only [lay]
  refine lv (.agg #[.int .u8 (PD.dst.getD 0 0), .int .u8 (PD.dst.getD 1 0), .int .u8 (PD.dst.getD 2 0), .int .u8 (PD.dst.getD 3 0), .int .u8 (PD.dst.getD 4 0), .int .u8 (PD.dst.getD 5 0), .int .u8 (PD.dst.getD 6 0), .int .u8 (PD.dst.getD 7 0), .int .u8 (PD.dst.getD 8 0), .int .u8 (PD.dst.getD 9 0), .int .u8 (PD.dst.getD 10 0), .int .u8 (PD.dst.getD 11 0), .int .u8 (PD.dst.getD 12 0), .int .u8 (PD.dst.getD 13 0), .int .u8 (PD.dst.getD 14 0), .int .u8 (PD.dst.getD 15 0)]) (by exact ex_loadAt (by exact rfl) (by exact rfl) (has252.loadIn (P := Try.prog) 19 [.int .u8 (PD.dst.getD 0 0), .int .u8 (PD.dst.getD 1 0), .int .u8 (PD.dst.getD 2 0), .int .u8 (PD.dst.getD 3 0), .int .u8 (PD.dst.getD 4 0), .int .u8 (PD.dst.getD 5 0), .int .u8 (PD.dst.getD 6 0), .int .u8 (PD.dst.getD 7 0), .int .u8 (PD.dst.getD 8 0), .int .u8 (PD.dst.getD 9 0), .int .u8 (PD.dst.getD 10 0), .int .u8 (PD.dst.getD 11 0), .int .u8 (PD.dst.getD 12 0), .int .u8 (PD.dst.getD 13 0), .int .u8 (PD.dst.getD 14 0), .int .u8 (PD.dst.getD 15 0)] (by kernel_rfl) 29 Try.underlying29 rfl (by kernel_rfl))) ?_
  simp only [lay]
  refine lv (.pointer (some ⟨g8, 16, none⟩)) (by exact xf 16 15 Try.underlying31) ?_
  simp only [lay]
  refine lv (.agg (a16 t)) (by exact ex_loadAt (by exact rfl) (by exact rfl) (has253.loadIn (P := Try.prog) 16 (w16 t) (by kernel_rfl) 29 Try.underlying29 rfl (by kernel_rfl))) ?_
  simp only [lay]
  refine lv (.bool true) (by exact ex_eq_a16 PD.dst t (by exact rfl) (by exact rfl) (by exact rfl) hp3) ?_
  simp only [lay]
  refine lv (.bool true) (by exact xp (b := true)) ?_
  simp only [lay]
  refine lv (.bool true) (by exact xm) ?_
  simp only [lay]
  refine lv (.pointer (some ⟨g51, 2, none⟩)) (by exact xf 2 0 Try.underlying36) ?_
  simp only [lay]
  refine lv (.int .u8 PD.hop) (by exact xc Try.underlying5 (has252.cell 2 rfl)) ?_
  simp only [lay]
  refine lv (.pointer (some ⟨g1, 5, none⟩)) (by exact xf 5 0 Try.underlying27) ?_
  simp only [lay]
  refine lv (.int .u8 C.ttl) (by exact xc Try.underlying5 (has214.cell 5 rfl)) ?_
  simp only [lay]
  refine lv (.bool true) (by exact yq (h := hp4)) ?_
  simp only [lay]
  refine lv (.bool true) (by exact xp (b := true)) ?_
  simp only [lay]
  refine lv (.bool true) (by exact xm) ?_
  simp only [lay]
  refine lv (.agg (C.cells p)) (by exact xo (has214.load (P := Try.prog) 27 Try.underlying27 rfl (by kernel_rfl))) ?_
  simp only [lay]
  have b254 := bt b71 hb74
  have b255 := bt b254 hb85
  have l256 := lq b254 ge83
  have b257 := b255.trans (hb90.mono l256)
  have b258 := bt b257 hb211
  have rd259 := hRC.to b258
  refine lz (ow_call (fun v w' => v = .int .i64 0 ∧ Below W210.heap.size W210 w') (by exact xk Try.func25) ((rcheck_x rd259).mono fun e w' h => by obtain ⟨v, h1, h2, h3⟩ := h; exact ⟨v, h1, by rw [h2, (pack17_ok (hPE.trans (by assumption))).1], h3⟩) ?_)
  rintro _ W260 ⟨rfl, hb261⟩
  have z262 := hb261.size
  simp only [lay]
  refine lv (.bool true) (by exact yq (h := (by decide))) ?_
  simp only [lay]
  refine lv (.bool true) (by exact xp (b := true)) ?_
  simp only [lay]
  refine lv (.bool true) (by exact xm) ?_
  simp only [lay]
  refine lz (ow_call (fun v w' => v = .bool true ∧ Below W260.heap.size W260 w') (by exact xk Try.func13) ((alive17_any W260).mono fun e w' h => ⟨_, h.1, rfl, h.2⟩) ?_)
  rintro _ W263 ⟨rfl, hb264⟩
  have z265 := hb264.size
  simp only [lay]
  refine lv (.bool true) (by exact xp (b := true)) ?_
  simp only [lay]
  refine lv (.bool true) (by exact xa) ?_
  simp only [lay]
  refine wn ?_
  refine wp_ret ?_
  try simp only [Exit.then]
  have b266 := bt b258 hb261
  have b267 := bt b266 hb264
  exact bodyPost_ret (res_one Try.results7 rfl) rfl ⟨rfl, b267⟩
 refine lv (.bool true) (by exact neq_int_ne (by exact rfl) (by exact rfl) (by exact rfl) (by first | assumption | omega)) ?_
 simp only [lay]
 refine wn ?_
 refine wp_cond_true (by exact rfl) ?_
 refine wp_sr ?_
 refine lv (.agg (PD.cells p48)) (by exact xo (hg59.load (P := Try.prog) 36 Try.underlying36 rfl (by kernel_rfl))) ?_
 simp only [lay]
 refine lv (.agg #[.int .u8 0, .int .u32 0, .int .u8 0, .int .u8 0, .int .u8 0, .int .u8 0, .int .u8 0, .int .u8 0, .int .u8 0, .int .u8 0, .int .u8 0, .int .u8 0, .int .u8 0, .int .u8 0, .int .u8 0, .int .u8 0, .int .u8 0, .int .u8 0, .int .u8 0, .int .u8 0, .int .u8 0, .int .u8 0, .int .u8 0, .int .u8 0, .int .u8 0, .int .u8 0, .int .u8 0, .int .u8 0, .int .u8 0, .int .u8 0, .int .u8 0, .int .u8 0, .int .u8 0, .int .u8 0, .int .u8 0, .slice none 0 0, .bool false, .int .u32 0, .int .i64 0, .bool false, .int .u8 0, .slice none 0 0]) (by kernel_rfl) ?_
 simp only [lay]
 have l268 : W46.heap.size ≤ g51 := Nat.le_of_eq ge54.symm
 have b269 := hb56.trans (hb61.mono l268)
 have own6270 := ho49.to b269
 have hz := pack17_none (s' := s') (t' := t') (by rw [hPE]; assumption : ¬ (pack17 C s t s' t').2 = 0)
 rw [hPD] at hz
 refine lz (ow_call (fun v w' => v = .bool true ∧ Below W58.heap.size W58 w') (by exact xk Try.func12) ((rsame6_any PD zero6 _ pZ6 W58 own6270.rd (own6_zero _ 0).rd).mono (by rintro e w' ⟨⟨q, rfl, hq⟩, hb⟩; obtain rfl : q = true := hq.out.trans (same6_eq hz); exact ⟨_, rfl, rfl, hb⟩)) ?_)
 rintro _ W271 ⟨rfl, hb272⟩
 have z273 := hb272.size
 simp only [lay]
 refine lv (.bool true) (by exact xm) ?_
 simp only [lay]
 refine lz (ow_call (fun v w' => v = .bool true ∧ Below W271.heap.size W271 w') (by exact xk Try.func13) ((alive17_any W271).mono fun e w' h => ⟨_, h.1, rfl, h.2⟩) ?_)
 rintro _ W274 ⟨rfl, hb275⟩
 have z276 := hb275.size
 simp only [lay]
 refine lv (.bool true) (by exact xp (b := true)) ?_
 simp only [lay]
 refine lv (.bool true) (by exact xa) ?_
 simp only [lay]
 refine wn ?_
 refine wp_ret ?_
 try simp only [Exit.then]
 have b277 := bt b44 hb47
 have b278 := bt b277 hb56
 have l279 := lq b277 ge54
 have b280 := b278.trans (hb61.mono l279)
 have b281 := bt b280 hb272
 have b282 := bt b281 hb275
 exact bodyPost_ret (res_one Try.results7 rfl) rfl ⟨rfl, b282⟩
end Go.Proofs.Ytijnifbpbgckgaa
